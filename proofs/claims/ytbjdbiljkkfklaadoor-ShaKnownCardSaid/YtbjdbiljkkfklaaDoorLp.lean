/- Walks of functions of the given program that the claim reaches. -/
import Derived.Test.YtbjdbiljkkfklaaDoorLs
set_option linter.unusedSimpArgs false
set_option linter.unusedVariables false
namespace Go.Proofs.YtbjdbiljkkfklaaDoor
open Go Go.Kx Go.RowKit
theorem arr22 : arrT Tryd.prog 22 = some (64, 1) := by kernel_rfl
theorem zero121 : Zero Tryd.prog 121 [bv (List.replicate 65 0)] := ⟨.agg ([bv (List.replicate 65 0)] : List (List Value)).flatten.toArray, by kernel_rfl, by kernel_rfl⟩
theorem arr121 : arrT Tryd.prog 121 = some (65, 1) := by kernel_rfl
theorem zero76 : Zero Tryd.prog 76 [[.pointer none], [.slice none 0 0]] := ⟨.agg ([[.pointer none], [.slice none 0 0]] : List (List Value)).flatten.toArray, by kernel_rfl, by kernel_rfl⟩
theorem ispow_c  (w : World)  : Calls Tryd.prog 89 #[.int .i64 16] w fun e w' => e = .returned (.bool true) ∧ Mem w [] w' [] := by
  have hM := Mem.start0 w
  refine f_enter 8 Tryd.func89 rfl rfl rfl ?_
  intro a hE
  replace hE : Env a 8 [(0, _)] := hE
  refine wp_seq_k (fun K1 hK1 => ?_)
  refine wp_plain [true] rfl rfl ?_
  refine s_assign hE rfl rfl ?_; clear hE a; intro a hE
  refine q_nil ?_
  refine hK1 _ _ ?_
  refine wp_seq_k (fun K2 hK2 => ?_)
  refine wp_plain [true, true, true, true, true, true] rfl rfl ?_
  refine s_move hE rfl rfl ?_; clear hE a; intro a hE
  refine s_move hE rfl rfl ?_; clear hE a; intro a hE
  refine s_bin hE rfl rfl (show Bin _ _ _ _ _ (.int .i64 15) from bin_sub (by rw [wrap_i64 (by omega) (by omega)]; omega)) rfl ?_; clear hE a; intro a hE
  refine s_bin hE rfl rfl (show Bin _ _ _ _ _ (.int .i64 0) from bin_and_i64 (m := 16) (s := 15) (by decide) (by decide)) rfl ?_; clear hE a; intro a hE
  refine s_bin hE rfl rfl bin_eql rfl ?_; clear hE a; intro a hE
  replace hE := hE.cast 7 rfl (show _ = Value.bool true from (congrArg Value.bool (by decide)))
  refine s_assign hE rfl rfl ?_; clear hE a; intro a hE
  refine q_nil ?_
  replace hE : Env a 8 [(2, _)] := hE.sel [2] rfl
  refine hK2 _ _ ?_
  refine wp_ret ?_
  refine f_ret1 hE rfl rfl ?_
  exact ⟨(by first | rfl | (simp; done)), hM.pick [] rfl⟩
def tabQ : Ent := cellsAt (.pointer (some ⟨5, 0, none⟩)) (deB64.map fun z => Value.int .u8 z)
theorem tz64_c  (w : World) (hQ : tabQ.holds w) : Calls Tryd.prog 93 #[.int .u64 16] w fun e w' => e = .returned (.int .i64 4) ∧ Mem w [] w' [] := by
  have hM : Mem w [] w [tabQ] := Mem.startR w (fun g hg => by
    simp only [List.mem_cons, List.not_mem_nil, or_false] at hg
    rcases hg with rfl
    · exact ⟨hQ, rfl⟩)
  refine f_enter 14 Tryd.func93 rfl rfl rfl ?_
  intro a hE
  replace hE : Env a 14 [(0, _)] := hE
  refine wp_seq_k (fun K1 hK1 => ?_)
  refine wp_plain [true] rfl rfl ?_
  refine s_assign hE rfl rfl ?_; clear hE a; intro a hE
  refine q_nil ?_
  refine hK1 _ _ ?_
  refine wp_seq_k (fun K2 hK2 => ?_)
  refine wp_seq_k (fun K3 hK3 => ?_)
  refine wp_plain [true, true] rfl rfl ?_
  refine s_move hE rfl rfl ?_; clear hE a; intro a hE
  refine s_bin hE rfl rfl bin_eql rfl ?_; clear hE a; intro a hE
  replace hE := hE.cast 4 rfl (show _ = Value.bool false from (congrArg Value.bool (by decide)))
  refine q_nil ?_
  replace hE : Env a 14 [(0, _), (2, _), (4, _)] := hE.sel [0, 2, 4] rfl
  refine hK3 _ _ ?_
  refine wp_cond_false (hE.eval rfl) ?_
  refine wp_skip ?_
  refine hK2 _ _ ?_
  refine wp_seq_k (fun K4 hK4 => ?_)
  refine wp_plain [true, true, true, true, true, true, true, true, true, true] rfl rfl ?_
  refine s_move hE rfl rfl ?_; clear hE a; intro a hE
  refine s_move hE rfl rfl ?_; clear hE a; intro a hE
  refine s_neg hE rfl (show IntKind.u64.wrap (-16) = 18446744073709551600 by decide) rfl ?_; clear hE a; intro a hE
  refine s_bin hE rfl rfl (show Bin _ _ _ _ _ (.int .u64 16) from bin_and_u64 (m := 16) (s := 18446744073709551600) (by decide) (by decide)) rfl ?_; clear hE a; intro a hE
  refine s_bin hE rfl rfl (show Bin _ _ _ _ _ (.int .u64 4573923408821661840) from bin_mul (by decide)) rfl ?_; clear hE a; intro a hE
  refine s_bin hE rfl rfl (show Bin _ _ _ _ _ (.int .u64 15) from bin_shr_nat (m := 4573923408821661840) (s := 58) rfl (by decide)) rfl ?_; clear hE a; intro a hE
  refine s_indexArr (j := 15) hE rfl rfl arr22 rfl (by decide) rfl ?_; clear hE a; intro a hE
  refine s_loadCells (j := 15) hE rfl rfl (hM.get 0 rfl) rfl one5 (by intro X h; cases h) rfl ?_; clear hE a; intro a hE
  refine s_conv hE rfl (cnv_int Tryd.underlying5 Tryd.underlying3 ((show IntKind.i64.wrap 4 = 4 by decide))) rfl ?_; clear hE a; intro a hE
  refine s_assign hE rfl rfl ?_; clear hE a; intro a hE
  refine q_nil ?_
  replace hE : Env a 14 [(0, _), (2, _), (4, _)] := hE.sel [0, 2, 4] rfl
  refine hK4 _ _ ?_
  refine wp_ret ?_
  refine f_ret1 hE rfl rfl ?_
  exact ⟨(by first | rfl | (simp; done)), hM.pick [] rfl⟩
theorem tz_c  (w : World) (hQ : tabQ.holds w) : Calls Tryd.prog 90 #[.int .u64 16] w fun e w' => e = .returned (.int .i64 4) ∧ Mem w [] w' [] := by
  have hM : Mem w [] w [tabQ] := Mem.startR w (fun g hg => by
    simp only [List.mem_cons, List.not_mem_nil, or_false] at hg
    rcases hg with rfl
    · exact ⟨hQ, rfl⟩)
  refine f_enter 8 Tryd.func90 rfl rfl rfl ?_
  intro a hE
  replace hE : Env a 8 [(0, _)] := hE
  refine wp_seq_k (fun K1 hK1 => ?_)
  refine wp_plain [true] rfl rfl ?_
  refine s_assign hE rfl rfl ?_; clear hE a; intro a hE
  refine q_nil ?_
  refine hK1 _ _ ?_
  refine wp_seq_k (fun K2 hK2 => ?_)
  refine wp_cond_false rfl ?_
  refine wp_skip ?_
  refine hK2 _ _ ?_
  refine wp_seq_k (fun K3 hK3 => ?_)
  refine wp_plain [true, false, true] rfl rfl ?_
  refine s_move hE rfl rfl ?_; clear hE a; intro a hE
  refine s_call hE rfl Tryd.call93 (tz64_c  _ (hM.get 0 rfl)) rfl ?_
  rintro e w1 ⟨rfl, hN⟩
  refine ⟨_, rfl, trivial, ?_⟩; clear hE a; intro a hE
  replace hM : Mem _ _ w1 [_] := hM.call0 hN trivial; clear hN
  refine s_assign hE rfl rfl ?_; clear hE a; intro a hE
  refine q_nil ?_
  replace hE : Env a 8 [(0, _), (2, _)] := hE.sel [0, 2] rfl
  refine hK3 _ _ ?_
  refine wp_ret ?_
  refine f_ret1 hE rfl rfl ?_
  exact ⟨(by first | rfl | (simp; done)), hM.pick [] rfl⟩
theorem fbits_c (n : Nat) (w : World) (hQ : tabQ.holds w) (h1 : 256 ≤ n) (h2 : n < 512) : Calls Tryd.prog 80 #[.slice none 0 0, .int .u64 (n : Int), .int .i64 16, .bool false, .bool false] w fun e w' => e = .returned (.tuple #[.slice none 0 0, .string (str (fmt3 n))]) ∧ Mem w [] w' [] := by
  have hM : Mem w [] w [tabQ] := Mem.startR w (fun g hg => by
    simp only [List.mem_cons, List.not_mem_nil, or_false] at hg
    rcases hg with rfl
    · exact ⟨hQ, rfl⟩)
  refine f_enter 102 Tryd.func80 rfl rfl rfl ?_
  intro a hE
  replace hE : Env a 102 [(0, _), (1, _), (2, _), (3, _), (4, _)] := hE
  refine wp_seq_k (fun K1 hK1 => ?_)
  refine wp_plain [true, true] rfl rfl ?_
  refine s_assign hE rfl rfl ?_; clear hE a; intro a hE
  refine s_assign hE rfl rfl ?_; clear hE a; intro a hE
  refine q_nil ?_
  refine hK1 _ _ ?_
  refine wp_seq_k (fun K2 hK2 => ?_)
  refine wp_seq_k (fun K3 hK3 => ?_)
  refine wp_plain [true, true, true, true, true, true, true, true, true, true] rfl rfl ?_
  refine s_move hE rfl rfl ?_; clear hE a; intro a hE
  refine s_bin hE rfl rfl bin_lss rfl ?_; clear hE a; intro a hE
  replace hE := hE.cast 20 rfl (show _ = Value.bool false from (congrArg Value.bool (by decide)))
  refine s_move hE rfl rfl ?_; clear hE a; intro a hE
  refine g_yes hE rfl rfl ?_
  refine s_move hE rfl rfl ?_; clear hE a; intro a hE
  refine g_yes hE rfl rfl ?_
  refine s_bin hE rfl rfl bin_eql rfl ?_; clear hE a; intro a hE
  replace hE := hE.cast 23 rfl (show _ = Value.bool false from (congrArg Value.bool (by decide)))
  refine s_pickf hE rfl rfl rfl ?_; clear hE a; intro a hE
  refine s_move hE rfl rfl ?_; clear hE a; intro a hE
  refine g_yes hE rfl rfl ?_
  refine s_move hE rfl rfl ?_; clear hE a; intro a hE
  refine g_yes hE rfl rfl ?_
  refine s_bin hE rfl rfl bin_gtr rfl ?_; clear hE a; intro a hE
  replace hE := hE.cast 27 rfl (show _ = Value.bool false from (congrArg Value.bool (by decide)))
  refine s_pickf hE rfl rfl rfl ?_; clear hE a; intro a hE
  refine q_nil ?_
  replace hE : Env a 102 [(0, _), (1, _), (2, _), (3, _), (4, _), (10, _), (11, _), (28, _)] := hE.sel [0, 1, 2, 3, 4, 10, 11, 28] rfl
  refine hK3 _ _ ?_
  refine wp_cond_false (hE.eval rfl) ?_
  refine wp_skip ?_
  refine hK2 _ _ ?_
  refine wp_seq_k (fun K4 hK4 => ?_)
  refine wp_plain [false] rfl rfl ?_
  refine s_alloc [65] hE hM zero121 rfl rfl ?_; clear hE a; intro a b12 w1 hE hM'
  clear hM; have hM := hM'; clear hM'
  refine q_nil ?_
  refine hK4 _ _ ?_
  refine wp_seq_k (fun K5 hK5 => ?_)
  refine wp_plain [true] rfl rfl ?_
  refine s_assign hE rfl rfl ?_; clear hE a; intro a hE
  refine q_nil ?_
  refine hK5 _ _ ?_
  refine wp_seq_k (fun K6 hK6 => ?_)
  refine wp_seq_k (fun K7 hK7 => ?_)
  refine wp_plain [true] rfl rfl ?_
  refine s_move hE rfl rfl ?_; clear hE a; intro a hE
  refine q_nil ?_
  refine hK7 _ _ ?_
  refine wp_cond_false (hE.eval rfl) ?_
  refine wp_skip ?_
  refine hK6 _ _ ?_
  refine wp_seq_k (fun K8 hK8 => ?_)
  refine wp_seq_k (fun K9 hK9 => ?_)
  refine wp_plain [true, false] rfl rfl ?_
  refine s_move hE rfl rfl ?_; clear hE a; intro a hE
  refine s_call hE rfl Tryd.call89 (ispow_c  _ ) rfl ?_
  rintro e w2 ⟨rfl, hN⟩
  refine ⟨_, rfl, trivial, ?_⟩; clear hE a; intro a hE
  replace hM : Mem _ _ w2 [_, _] := hM.call0 hN trivial; clear hN
  refine q_nil ?_
  replace hE : Env a 102 [(0, _), (1, _), (2, _), (3, _), (4, _), (10, _), (11, _), (12, _), (13, _), (28, _), (30, _), (34, _)] := hE.sel [0, 1, 2, 3, 4, 10, 11, 12, 13, 28, 30, 34] rfl
  refine hK9 _ _ ?_
  refine wp_cond_true (hE.eval rfl) ?_
  refine wp_seq_k (fun K10 hK10 => ?_)
  refine wp_plain [true, true, false, true, true] rfl rfl ?_
  refine s_move hE rfl rfl ?_; clear hE a; intro a hE
  refine s_conv hE rfl (cnv_int Tryd.underlying3 Tryd.underlying97 (wrap_u64 (by omega) (by omega))) rfl ?_; clear hE a; intro a hE
  refine s_call hE rfl Tryd.call90 (tz_c  _ (hM.get 1 rfl)) rfl ?_
  rintro e w3 ⟨rfl, hN⟩
  refine ⟨_, rfl, trivial, ?_⟩; clear hE a; intro a hE
  replace hM : Mem _ _ w3 [_, _] := hM.call0 hN trivial; clear hN
  refine s_conv hE rfl (cnv_int Tryd.underlying3 Tryd.underlying97 (wrap_u64 (by omega) (by omega))) rfl ?_; clear hE a; intro a hE
  refine s_assign hE rfl rfl ?_; clear hE a; intro a hE
  refine q_nil ?_
  replace hE : Env a 102 [(0, _), (1, _), (2, _), (3, _), (4, _), (10, _), (11, _), (12, _), (13, _), (14, _), (28, _), (30, _), (34, _)] := hE.sel [0, 1, 2, 3, 4, 10, 11, 12, 13, 14, 28, 30, 34] rfl
  refine hK10 _ _ ?_
  refine wp_seq_k (fun K11 hK11 => ?_)
  refine wp_plain [true, true, true] rfl rfl ?_
  refine s_move hE rfl rfl ?_; clear hE a; intro a hE
  refine s_conv hE rfl (cnv_int Tryd.underlying3 Tryd.underlying69 (wrap_u64 (by omega) (by omega))) rfl ?_; clear hE a; intro a hE
  refine s_assign hE rfl rfl ?_; clear hE a; intro a hE
  refine q_nil ?_
  replace hE : Env a 102 [(0, _), (1, _), (2, _), (3, _), (4, _), (10, _), (11, _), (12, _), (13, _), (14, _), (15, _), (28, _), (30, _), (34, _)] := hE.sel [0, 1, 2, 3, 4, 10, 11, 12, 13, 14, 15, 28, 30, 34] rfl
  refine hK11 _ _ ?_
  refine wp_seq_k (fun K12 hK12 => ?_)
  refine wp_plain [true, true, true, true] rfl rfl ?_
  refine s_move hE rfl rfl ?_; clear hE a; intro a hE
  refine s_conv hE rfl (cnv_int Tryd.underlying3 Tryd.underlying97 (wrap_u64 (by omega) (by omega))) rfl ?_; clear hE a; intro a hE
  refine s_bin hE rfl rfl (show Bin _ _ _ _ _ (.int .u64 15) from bin_sub (by rw [wrap_u64 (by omega) (by omega)]; omega)) rfl ?_; clear hE a; intro a hE
  refine s_assign hE rfl rfl ?_; clear hE a; intro a hE
  refine q_nil ?_
  replace hE : Env a 102 [(0, _), (1, _), (2, _), (3, _), (4, _), (10, _), (11, _), (12, _), (13, _), (14, _), (15, _), (16, _), (28, _), (30, _), (34, _)] := hE.sel [0, 1, 2, 3, 4, 10, 11, 12, 13, 14, 15, 16, 28, 30, 34] rfl
  refine hK12 _ _ ?_
  refine wp_seq_k (fun K13 hK13 => ?_)
  refine wp_block ?_
  refine wp_loop_rounds 3 (c_rounds ?_)
  refine wp_seq_k (fun K14 hK14 => ?_)
  refine wp_seq_k (fun K15 hK15 => ?_)
  refine wp_plain [true, true, true] rfl rfl ?_
  refine s_move hE rfl rfl ?_; clear hE a; intro a hE
  refine s_move hE rfl rfl ?_; clear hE a; intro a hE
  refine s_bin hE rfl rfl bin_geq rfl ?_; clear hE a; intro a hE
  refine q_nil ?_
  replace hE : Env a 102 [(0, _), (1, _), (2, _), (3, _), (4, _), (10, _), (11, _), (12, _), (13, _), (14, _), (15, _), (16, _), (28, _), (30, _), (34, _), (46, _)] := hE.sel [0, 1, 2, 3, 4, 10, 11, 12, 13, 14, 15, 16, 28, 30, 34, 46] rfl
  refine hK15 _ _ ?_
  replace hE := hE.cast 46 rfl (show _ = Value.bool true from (congrArg Value.bool (decide_eq_true (by omega))))
  refine wp_cond_true (hE.eval rfl) ?_
  refine wp_skip ?_
  refine hK14 _ _ ?_
  refine wp_block ?_
  refine wp_seq_k (fun K16 hK16 => ?_)
  refine wp_plain [true, true, true] rfl rfl ?_
  refine s_move hE rfl rfl ?_; clear hE a; intro a hE
  refine s_bin hE rfl rfl (show Bin _ _ _ _ _ (.int .i64 64) from bin_sub (by rw [wrap_i64 (by omega) (by omega)]; omega)) rfl ?_; clear hE a; intro a hE
  refine s_assign hE rfl rfl ?_; clear hE a; intro a hE
  refine q_nil ?_
  replace hE : Env a 102 [(0, _), (1, _), (2, _), (3, _), (4, _), (10, _), (11, _), (12, _), (13, _), (14, _), (15, _), (16, _), (28, _), (30, _), (34, _), (46, _)] := hE.sel [0, 1, 2, 3, 4, 10, 11, 12, 13, 14, 15, 16, 28, 30, 34, 46] rfl
  refine hK16 _ _ ?_
  refine wp_seq_k (fun K17 hK17 => ?_)
  refine wp_plain [true, true, true, true, true, true, false] rfl rfl ?_
  refine s_move hE rfl rfl ?_; clear hE a; intro a hE
  refine s_move hE rfl rfl ?_; clear hE a; intro a hE
  refine s_move hE rfl rfl ?_; clear hE a; intro a hE
  refine s_bin hE rfl rfl (bin_mask (m := n) (s := 15) 4 (by omega) (by decide) (by decide)) rfl ?_; clear hE a; intro a hE
  refine s_indexStr (j := n % 2 ^ 4) (l := [48, 49, 50, 51, 52, 53, 54, 55, 56, 57, 97, 98, 99, 100, 101, 102, 103, 104, 105, 106, 107, 108, 109, 110, 111, 112, 113, 114, 115, 116, 117, 118, 119, 120, 121, 122]) (b := [48, 49, 50, 51, 52, 53, 54, 55, 56, 57, 97, 98, 99, 100, 101, 102, 103, 104, 105, 106, 107, 108, 109, 110, 111, 112, 113, 114, 115, 116, 117, 118, 119, 120, 121, 122].getD (n % 2 ^ 4) 0) hE rfl rfl Tryd.underlying9 (by first | rfl | simp | kernel_rfl) (by first | rfl | omega) (get_getD (by show _ < 36; omega)) rfl ?_; clear hE a; intro a hE
  refine s_indexArr (j := 64) hE rfl rfl arr121 (by first | rfl | omega) (by first | omega | decide) rfl ?_; clear hE a; intro a hE
  refine s_storeIdx (j := 64) hE rfl (by omega) rfl hM rfl rfl sz5 (by have hl_ : (List.replicate 65 (0 : UInt8)).length = 65 := (by first | (simp; done) | (simp [*]; done) | (simp; omega)); first | omega | (rw [bv_length]; omega) | (simp; omega)) (by intro X h; cases h) ?_; intro w4 hM'; clear hM; have hM := hM'; clear hM'
  first | rw [bv_set'] at hM | rw [bv_setI] at hM
  refine q_nil ?_
  replace hE : Env a 102 [(0, _), (1, _), (2, _), (3, _), (4, _), (10, _), (11, _), (12, _), (13, _), (14, _), (15, _), (16, _), (28, _), (30, _), (34, _), (46, _)] := hE.sel [0, 1, 2, 3, 4, 10, 11, 12, 13, 14, 15, 16, 28, 30, 34, 46] rfl
  refine hK17 _ _ ?_
  refine wp_plain [true, true, true, true] rfl rfl ?_
  refine s_move hE rfl rfl ?_; clear hE a; intro a hE
  refine s_move hE rfl rfl ?_; clear hE a; intro a hE
  refine s_bin hE rfl rfl (bin_shr_nat (m := n) (s := 4) (by first | rfl | omega) (by show _ ≤ 64; omega)) rfl ?_; clear hE a; intro a hE
  refine s_assign hE rfl rfl ?_; clear hE a; intro a hE
  refine q_nil ?_
  replace hE : Env a 102 [(0, _), (1, _), (2, _), (3, _), (4, _), (10, _), (11, _), (12, _), (13, _), (14, _), (15, _), (16, _), (28, _), (30, _), (34, _), (46, _)] := hE.sel [0, 1, 2, 3, 4, 10, 11, 12, 13, 14, 15, 16, 28, 30, 34, 46] rfl
  refine q_block_n ?_
  replace hM : Mem _ _ w4 [_, _] := hM.pick [0, 1] rfl
  refine q_then_n (c_rounds ?_)
  refine wp_seq_k (fun K18 hK18 => ?_)
  refine wp_seq_k (fun K19 hK19 => ?_)
  refine wp_plain [true, true, true] rfl rfl ?_
  refine s_move hE rfl rfl ?_; clear hE a; intro a hE
  refine s_move hE rfl rfl ?_; clear hE a; intro a hE
  refine s_bin hE rfl rfl bin_geq rfl ?_; clear hE a; intro a hE
  refine q_nil ?_
  replace hE : Env a 102 [(0, _), (1, _), (2, _), (3, _), (4, _), (10, _), (11, _), (12, _), (13, _), (14, _), (15, _), (16, _), (28, _), (30, _), (34, _), (46, _)] := hE.sel [0, 1, 2, 3, 4, 10, 11, 12, 13, 14, 15, 16, 28, 30, 34, 46] rfl
  refine hK19 _ _ ?_
  replace hE := hE.cast 46 rfl (show _ = Value.bool true from (congrArg Value.bool (decide_eq_true (by omega))))
  refine wp_cond_true (hE.eval rfl) ?_
  refine wp_skip ?_
  refine hK18 _ _ ?_
  refine wp_block ?_
  refine wp_seq_k (fun K20 hK20 => ?_)
  refine wp_plain [true, true, true] rfl rfl ?_
  refine s_move hE rfl rfl ?_; clear hE a; intro a hE
  refine s_bin hE rfl rfl (show Bin _ _ _ _ _ (.int .i64 63) from bin_sub (by rw [wrap_i64 (by omega) (by omega)]; omega)) rfl ?_; clear hE a; intro a hE
  refine s_assign hE rfl rfl ?_; clear hE a; intro a hE
  refine q_nil ?_
  replace hE : Env a 102 [(0, _), (1, _), (2, _), (3, _), (4, _), (10, _), (11, _), (12, _), (13, _), (14, _), (15, _), (16, _), (28, _), (30, _), (34, _), (46, _)] := hE.sel [0, 1, 2, 3, 4, 10, 11, 12, 13, 14, 15, 16, 28, 30, 34, 46] rfl
  refine hK20 _ _ ?_
  refine wp_seq_k (fun K21 hK21 => ?_)
  refine wp_plain [true, true, true, true, true, true, false] rfl rfl ?_
  refine s_move hE rfl rfl ?_; clear hE a; intro a hE
  refine s_move hE rfl rfl ?_; clear hE a; intro a hE
  refine s_move hE rfl rfl ?_; clear hE a; intro a hE
  refine s_bin hE rfl rfl (bin_mask (m := n / 2 ^ 4) (s := 15) 4 (by omega) (by decide) (by decide)) rfl ?_; clear hE a; intro a hE
  refine s_indexStr (j := (n / 2 ^ 4) % 2 ^ 4) (l := [48, 49, 50, 51, 52, 53, 54, 55, 56, 57, 97, 98, 99, 100, 101, 102, 103, 104, 105, 106, 107, 108, 109, 110, 111, 112, 113, 114, 115, 116, 117, 118, 119, 120, 121, 122]) (b := [48, 49, 50, 51, 52, 53, 54, 55, 56, 57, 97, 98, 99, 100, 101, 102, 103, 104, 105, 106, 107, 108, 109, 110, 111, 112, 113, 114, 115, 116, 117, 118, 119, 120, 121, 122].getD ((n / 2 ^ 4) % 2 ^ 4) 0) hE rfl rfl Tryd.underlying9 (by first | rfl | simp | kernel_rfl) (by first | rfl | omega) (get_getD (by show _ < 36; omega)) rfl ?_; clear hE a; intro a hE
  refine s_indexArr (j := 63) hE rfl rfl arr121 (by first | rfl | omega) (by first | omega | decide) rfl ?_; clear hE a; intro a hE
  refine s_storeIdx (j := 63) hE rfl (by omega) rfl hM rfl rfl sz5 (by have hl_ : ((List.replicate 65 (0 : UInt8)).set 64 ([48, 49, 50, 51, 52, 53, 54, 55, 56, 57, 97, 98, 99, 100, 101, 102, 103, 104, 105, 106, 107, 108, 109, 110, 111, 112, 113, 114, 115, 116, 117, 118, 119, 120, 121, 122].getD (n % 2 ^ 4) 0)).length = 65 := ((List.length_set ..).trans (by first | (simp; done) | (simp [*]; done) | (simp; omega))); first | omega | (rw [bv_length]; omega) | (simp; omega)) (by intro X h; cases h) ?_; intro w5 hM'; clear hM; have hM := hM'; clear hM'
  first | rw [bv_set'] at hM | rw [bv_setI] at hM
  refine q_nil ?_
  replace hE : Env a 102 [(0, _), (1, _), (2, _), (3, _), (4, _), (10, _), (11, _), (12, _), (13, _), (14, _), (15, _), (16, _), (28, _), (30, _), (34, _), (46, _)] := hE.sel [0, 1, 2, 3, 4, 10, 11, 12, 13, 14, 15, 16, 28, 30, 34, 46] rfl
  refine hK21 _ _ ?_
  refine wp_plain [true, true, true, true] rfl rfl ?_
  refine s_move hE rfl rfl ?_; clear hE a; intro a hE
  refine s_move hE rfl rfl ?_; clear hE a; intro a hE
  refine s_bin hE rfl rfl (bin_shr_nat (m := (n / 2 ^ 4)) (s := 4) (by first | rfl | omega) (by show _ ≤ 64; omega)) rfl ?_; clear hE a; intro a hE
  refine s_assign hE rfl rfl ?_; clear hE a; intro a hE
  refine q_nil ?_
  replace hE : Env a 102 [(0, _), (1, _), (2, _), (3, _), (4, _), (10, _), (11, _), (12, _), (13, _), (14, _), (15, _), (16, _), (28, _), (30, _), (34, _), (46, _)] := hE.sel [0, 1, 2, 3, 4, 10, 11, 12, 13, 14, 15, 16, 28, 30, 34, 46] rfl
  refine q_block_n ?_
  replace hM : Mem _ _ w5 [_, _] := hM.pick [0, 1] rfl
  refine q_then_n (c_rounds ?_)
  refine wp_seq_k (fun K22 hK22 => ?_)
  refine wp_seq_k (fun K23 hK23 => ?_)
  refine wp_plain [true, true, true] rfl rfl ?_
  refine s_move hE rfl rfl ?_; clear hE a; intro a hE
  refine s_move hE rfl rfl ?_; clear hE a; intro a hE
  refine s_bin hE rfl rfl bin_geq rfl ?_; clear hE a; intro a hE
  refine q_nil ?_
  replace hE : Env a 102 [(0, _), (1, _), (2, _), (3, _), (4, _), (10, _), (11, _), (12, _), (13, _), (14, _), (15, _), (16, _), (28, _), (30, _), (34, _), (46, _)] := hE.sel [0, 1, 2, 3, 4, 10, 11, 12, 13, 14, 15, 16, 28, 30, 34, 46] rfl
  refine hK23 _ _ ?_
  replace hE := hE.cast 46 rfl (show _ = Value.bool false from (congrArg Value.bool (decide_eq_false (by omega))))
  refine wp_cond_false (hE.eval rfl) ?_
  refine wp_exit ?_
  refine q_then_e ?_
  refine q_then_e ?_
  refine q_block_x ?_
  refine hK13 _ _ ?_
  refine wp_seq_k (fun K24 hK24 => ?_)
  refine wp_plain [true, true, true] rfl rfl ?_
  refine s_move hE rfl rfl ?_; clear hE a; intro a hE
  refine s_bin hE rfl rfl (show Bin _ _ _ _ _ (.int .i64 62) from bin_sub (by rw [wrap_i64 (by omega) (by omega)]; omega)) rfl ?_; clear hE a; intro a hE
  refine s_assign hE rfl rfl ?_; clear hE a; intro a hE
  refine q_nil ?_
  replace hE : Env a 102 [(0, _), (1, _), (2, _), (3, _), (4, _), (10, _), (11, _), (12, _), (13, _), (14, _), (15, _), (16, _), (28, _), (30, _), (34, _), (46, _)] := hE.sel [0, 1, 2, 3, 4, 10, 11, 12, 13, 14, 15, 16, 28, 30, 34, 46] rfl
  refine hK24 _ _ ?_
  refine wp_plain [true, true, true, true, false] rfl rfl ?_
  refine s_move hE rfl rfl ?_; clear hE a; intro a hE
  refine s_move hE rfl rfl ?_; clear hE a; intro a hE
  refine s_indexStr (j := (n / 2 ^ 4) / 2 ^ 4) (l := [48, 49, 50, 51, 52, 53, 54, 55, 56, 57, 97, 98, 99, 100, 101, 102, 103, 104, 105, 106, 107, 108, 109, 110, 111, 112, 113, 114, 115, 116, 117, 118, 119, 120, 121, 122]) (b := [48, 49, 50, 51, 52, 53, 54, 55, 56, 57, 97, 98, 99, 100, 101, 102, 103, 104, 105, 106, 107, 108, 109, 110, 111, 112, 113, 114, 115, 116, 117, 118, 119, 120, 121, 122].getD ((n / 2 ^ 4) / 2 ^ 4) 0) hE rfl rfl Tryd.underlying9 (by first | rfl | simp | kernel_rfl) (by first | rfl | omega) (get_getD (by show _ < 36; omega)) rfl ?_; clear hE a; intro a hE
  refine s_indexArr (j := 62) hE rfl rfl arr121 (by first | rfl | omega) (by first | omega | decide) rfl ?_; clear hE a; intro a hE
  refine s_storeIdx (j := 62) hE rfl (by omega) rfl hM rfl rfl sz5 (by have hl_ : (((List.replicate 65 (0 : UInt8)).set 64 ([48, 49, 50, 51, 52, 53, 54, 55, 56, 57, 97, 98, 99, 100, 101, 102, 103, 104, 105, 106, 107, 108, 109, 110, 111, 112, 113, 114, 115, 116, 117, 118, 119, 120, 121, 122].getD (n % 2 ^ 4) 0)).set 63 ([48, 49, 50, 51, 52, 53, 54, 55, 56, 57, 97, 98, 99, 100, 101, 102, 103, 104, 105, 106, 107, 108, 109, 110, 111, 112, 113, 114, 115, 116, 117, 118, 119, 120, 121, 122].getD ((n / 2 ^ 4) % 2 ^ 4) 0)).length = 65 := ((List.length_set ..).trans ((List.length_set ..).trans (by first | (simp; done) | (simp [*]; done) | (simp; omega)))); first | omega | (rw [bv_length]; omega) | (simp; omega)) (by intro X h; cases h) ?_; intro w6 hM'; clear hM; have hM := hM'; clear hM'
  first | rw [bv_set'] at hM | rw [bv_setI] at hM
  refine q_nil ?_
  replace hE : Env a 102 [(0, _), (1, _), (2, _), (3, _), (4, _), (10, _), (11, _), (12, _), (13, _), (14, _), (15, _), (16, _), (28, _), (30, _), (34, _), (46, _)] := hE.sel [0, 1, 2, 3, 4, 10, 11, 12, 13, 14, 15, 16, 28, 30, 34, 46] rfl
  refine hK8 _ _ ?_
  refine wp_seq_k (fun K25 hK25 => ?_)
  refine wp_seq_k (fun K26 hK26 => ?_)
  refine wp_plain [true] rfl rfl ?_
  refine s_move hE rfl rfl ?_; clear hE a; intro a hE
  refine q_nil ?_
  refine hK26 _ _ ?_
  refine wp_cond_false (hE.eval rfl) ?_
  refine wp_skip ?_
  refine hK25 _ _ ?_
  refine wp_seq_k (fun K27 hK27 => ?_)
  refine wp_seq_k (fun K28 hK28 => ?_)
  refine wp_plain [true] rfl rfl ?_
  refine s_move hE rfl rfl ?_; clear hE a; intro a hE
  refine q_nil ?_
  replace hE : Env a 102 [(0, _), (1, _), (2, _), (3, _), (10, _), (11, _), (12, _), (13, _), (14, _), (15, _), (16, _), (28, _), (30, _), (34, _), (46, _), (89, _), (94, _)] := hE.sel [0, 1, 2, 3, 10, 11, 12, 13, 14, 15, 16, 28, 30, 34, 46, 89, 94] rfl
  refine hK28 _ _ ?_
  refine wp_cond_false (hE.eval rfl) ?_
  refine wp_skip ?_
  refine hK27 _ _ ?_
  refine wp_seq_k (fun K29 hK29 => ?_)
  refine wp_plain [true, true, true, true] rfl rfl ?_
  refine s_move hE rfl rfl ?_; clear hE a; intro a hE
  replace hM := hM.resplit (ss' := [bv (List.replicate 62 0), bv (fmt3 n)]) (ns' := [62, 3]) rfl rfl
  refine s_sliceArr (l := 62) (h := 65) (mx' := 65) hE rfl arr121 ⟨_, rfl⟩ rfl rfl (by decide) (by decide) (by decide) (by decide) rfl ?_; clear hE a; intro a hE
  replace hE := hE.cast 100 rfl (show _ = Value.slice (some ⟨b12, 62, none⟩) 3 3 from rfl)
  refine s_toStr hE rfl Tryd.underlying23 Tryd.underlying5 Tryd.underlying9 (rd_seg8 (N := 3) (hM.get 0 rfl) rfl rfl) (by intro X h; cases h) rfl ?_; clear hE a; intro a hE
  refine s_assign hE rfl rfl ?_; clear hE a; intro a hE
  refine q_nil ?_
  replace hE : Env a 102 [(0, _), (1, _), (2, _), (3, _), (10, _), (11, _), (12, _), (13, _), (14, _), (15, _), (16, _), (28, _), (30, _), (34, _), (46, _), (89, _), (94, _)] := hE.sel [0, 1, 2, 3, 10, 11, 12, 13, 14, 15, 16, 28, 30, 34, 46, 89, 94] rfl
  refine hK29 _ _ ?_
  refine wp_ret ?_
  refine f_ret2 hE rfl rfl rfl ?_
  exact ⟨(by first | rfl | (simp; done)), hM.pick [] rfl⟩
theorem ifmt16_c (n : Nat) (w : World) (hQ : tabQ.holds w) (h1 : 256 ≤ n) (h2 : n < 512) : Calls Tryd.prog 63 #[.int .u64 (n : Int), .int .i64 16] w fun e w' => e = .returned (.string (str (fmt3 n))) ∧ Mem w [] w' [] := by
  have hM : Mem w [] w [tabQ] := Mem.startR w (fun g hg => by
    simp only [List.mem_cons, List.not_mem_nil, or_false] at hg
    rcases hg with rfl
    · exact ⟨hQ, rfl⟩)
  refine f_enter 32 Tryd.func63 rfl rfl rfl ?_
  intro a hE
  replace hE : Env a 32 [(0, _), (1, _)] := hE
  refine wp_seq_k (fun K1 hK1 => ?_)
  refine wp_plain [true] rfl rfl ?_
  refine s_assign hE rfl rfl ?_; clear hE a; intro a hE
  refine q_nil ?_
  refine hK1 _ _ ?_
  refine wp_seq_k (fun K2 hK2 => ?_)
  refine wp_seq_k (fun K3 hK3 => ?_)
  refine wp_plain [true, true] rfl rfl ?_
  refine s_move hE rfl rfl ?_; clear hE a; intro a hE
  refine s_bin hE rfl rfl bin_eql rfl ?_; clear hE a; intro a hE
  replace hE := hE.cast 10 rfl (show _ = Value.bool false from (congrArg Value.bool (by decide)))
  refine q_nil ?_
  replace hE : Env a 32 [(0, _), (1, _), (4, _), (10, _)] := hE.sel [0, 1, 4, 10] rfl
  refine hK3 _ _ ?_
  refine wp_cond_false (hE.eval rfl) ?_
  refine wp_skip ?_
  refine hK2 _ _ ?_
  refine wp_seq_k (fun K4 hK4 => ?_)
  refine wp_plain [true, true, false, true, true, true, true, true] rfl rfl ?_
  refine s_move hE rfl rfl ?_; clear hE a; intro a hE
  refine s_move hE rfl rfl ?_; clear hE a; intro a hE
  refine s_call hE rfl Tryd.call80 (fbits_c n _ (hM.get 0 rfl) (by first | omega | assumption | (simp; done) | (simp; omega) | decide) (by first | omega | assumption | (simp; done) | (simp; omega) | decide)) rfl ?_
  rintro e w1 ⟨rfl, hN⟩
  refine ⟨_, rfl, trivial, ?_⟩; clear hE a; intro a hE
  replace hM : Mem _ _ w1 [_] := hM.call0 hN trivial; clear hN
  refine s_move hE rfl rfl ?_; clear hE a; intro a hE
  refine s_extract hE rfl rfl rfl ?_; clear hE a; intro a hE
  refine s_extract hE rfl rfl rfl ?_; clear hE a; intro a hE
  refine s_assign hE rfl rfl ?_; clear hE a; intro a hE
  refine s_assign hE rfl rfl ?_; clear hE a; intro a hE
  refine q_nil ?_
  replace hE : Env a 32 [(0, _), (1, _), (4, _), (8, _), (10, _)] := hE.sel [0, 1, 4, 8, 10] rfl
  refine hK4 _ _ ?_
  refine wp_seq_k (fun K5 hK5 => ?_)
  refine wp_plain [true, true] rfl rfl ?_
  refine s_move hE rfl rfl ?_; clear hE a; intro a hE
  refine s_assign hE rfl rfl ?_; clear hE a; intro a hE
  refine q_nil ?_
  replace hE : Env a 32 [(0, _), (1, _), (4, _), (10, _)] := hE.sel [0, 1, 4, 10] rfl
  refine hK5 _ _ ?_
  refine wp_ret ?_
  refine f_ret1 hE rfl rfl ?_
  exact ⟨(by first | rfl | (simp; done)), hM.pick [] rfl⟩
theorem fmt16_c (n : Nat) (w : World) (hQ : tabQ.holds w) (h1 : 256 ≤ n) (h2 : n < 512) : Calls Tryd.prog 48 #[.int .u64 (n : Int), .int .i64 16] w fun e w' => e = .returned (.string (str (fmt3 n))) ∧ Mem w [] w' [] := by
  have hM : Mem w [] w [tabQ] := Mem.startR w (fun g hg => by
    simp only [List.mem_cons, List.not_mem_nil, or_false] at hg
    rcases hg with rfl
    · exact ⟨hQ, rfl⟩)
  refine f_enter 8 Tryd.func48 rfl rfl rfl ?_
  intro a hE
  replace hE : Env a 8 [(0, _), (1, _)] := hE
  refine wp_seq_k (fun K1 hK1 => ?_)
  refine wp_plain [true] rfl rfl ?_
  refine s_assign hE rfl rfl ?_; clear hE a; intro a hE
  refine q_nil ?_
  refine hK1 _ _ ?_
  refine wp_seq_k (fun K2 hK2 => ?_)
  refine wp_plain [true, true, false, true] rfl rfl ?_
  refine s_move hE rfl rfl ?_; clear hE a; intro a hE
  refine s_move hE rfl rfl ?_; clear hE a; intro a hE
  refine s_call hE rfl Tryd.call63 (ifmt16_c n _ (hM.get 0 rfl) (by first | omega | assumption | (simp; done) | (simp; omega) | decide) (by first | omega | assumption | (simp; done) | (simp; omega) | decide)) rfl ?_
  rintro e w1 ⟨rfl, hN⟩
  refine ⟨_, rfl, trivial, ?_⟩; clear hE a; intro a hE
  replace hM : Mem _ _ w1 [_] := hM.call0 hN trivial; clear hN
  refine s_assign hE rfl rfl ?_; clear hE a; intro a hE
  refine q_nil ?_
  replace hE : Env a 8 [(4, _)] := hE.sel [4] rfl
  refine hK2 _ _ ?_
  refine wp_ret ?_
  refine f_ret1 hE rfl rfl ?_
  exact ⟨(by first | rfl | (simp; done)), hM.pick [] rfl⟩
set_option maxHeartbeats 2000000 in
set_option maxRecDepth 100000 in
theorem chk_used (b : Nat) (w : World) (h0 : w.cell? ⟨b, 0, none⟩ = some (.pointer (some ⟨b, 0, none⟩))) : Calls Tryd.prog 62 #[.pointer (some ⟨b, 0, none⟩)] w fun e w' => e = .returned (.tuple #[]) ∧ w' = w := by
  obtain ⟨j, hj, _⟩ := Option.map_eq_some_iff.1 (show (Tryd.prog.info? 76).map (·.size) = some 2 by kernel_rfl)
  go_enter Tryd.func62, Tryd.ntmps62
  go_wp2
  rw [Lib.run_neq_ptr_same w _ (show Tryd.prog.underlying 74 = some (.pointer 76) by kernel_rfl) hj]
  go_wp2
  go_end0
  exact ⟨rfl, rfl⟩
set_option maxHeartbeats 2000000 in
set_option maxRecDepth 100000 in
theorem chk_fresh (b : Nat) (w : World) (h0 : w.cell? ⟨b, 0, none⟩ = some (.pointer none)) (hs : w.shape? b = some (76, 2)) (hf : w.frozen? ⟨b, 0, none⟩ = false) : Calls Tryd.prog 62 #[.pointer (some ⟨b, 0, none⟩)] w fun e w' => e = .returned (.tuple #[]) ∧ w' = w.setCell ⟨b, 0, none⟩ (.pointer (some ⟨b, 0, none⟩)) := by
  obtain ⟨j, hj, hjs⟩ := Option.map_eq_some_iff.1 (show (Tryd.prog.info? 76).map (·.size) = some 2 by kernel_rfl)
  have hp : Tryd.prog.underlying 74 = some (.pointer 76) := by kernel_rfl
  have hu : Tryd.prog.underlying 104 = some .unsafePointer := by kernel_rfl
  go_enter Tryd.func62, Tryd.ntmps62
  go_wp2
  rw [Lib.run_to_unsafe w ⟨b, 0, none⟩ hp hu hj (by rw [hjs]; decide) hs (Nat.zero_lt_succ 1)]
  simp only [Result.andThen]
  rw [Oper.upon_value]
  go_wp2
  rw [run_callFunc_extern Tryd.func76 (by kernel_rfl) (by kernel_rfl) (by kernel_rfl) (e := Extern.AbiNoEscape.same) (by kernel_rfl), Lib.run_noEscape]
  simp only [Result.andThen]
  rw [Oper.upon_value]
  go_wp2
  rw [Lib.run_from_unsafe w ⟨b, 0, none⟩ hu hp hj hs (by kernel_rfl)]
  simp only [Result.andThen]
  rw [Oper.upon_value]
  go_wp2
  go_end0
  exact ⟨rfl, rfl⟩
theorem chk_c (B b : Nat) (bs : List Value) (w : World) (h : Lib.IsBuilderF 76 5 B b bs w) : Calls Tryd.prog 62 #[.pointer (some ⟨b, 0, none⟩)] w fun e w' => e = .returned (.tuple #[]) ∧ Lib.BuilderAtF 76 5 B b (.pointer (some ⟨b, 0, none⟩)) bs w' ∧ Below B w w' := by
  rcases h with h | h
  · refine (chk_fresh b w h.cell0 h.shape h.frozen0).mono ?_
    rintro e w' ⟨rfl, rfl⟩
    exact ⟨rfl, h.used _, (Below.refl B w).setCell (p := ⟨b, 0, none⟩) h.1 _⟩
  · refine (chk_used b w h.cell0).mono ?_
    rintro e w' ⟨rfl, rfl⟩
    exact ⟨rfl, h, Below.refl B _⟩
set_option maxHeartbeats 2000000 in
set_option maxRecDepth 100000 in
theorem wstr_c (B b : Nat) (bs : List Value) (s : ByteArray) (w : World) (h : Lib.IsBuilderF 76 5 B b bs w) (hl : bs.length + s.size ≤ 140737488355328) (hB : B ≤ w.heap.size) :
    Calls Tryd.prog 47 #[.pointer (some ⟨b, 0, none⟩), .string s] w fun e w' => e = .returned (.tuple #[.int .i64 s.size, .nilIface]) ∧ Lib.IsBuilderF 76 5 B b (bs ++ Lib.strCells s) w' ∧ Below B w w' := by
  obtain ⟨i0, hi, hz0, hz1, hz2⟩ := info_parts (show (Tryd.prog.info? 5).map (fun i => (i.zero, i.size, i.bytes)) = some (some (.int .u8 0), 1, 1) by kernel_rfl)
  go_enter Tryd.func47, Tryd.ntmps47
  go_wp2_with (go_at_call 62; refine (chk_c B b bs _ h).mono ?_)
  rintro e w1 ⟨rfl, ⟨hb, v, hk, ho, hn⟩, hw⟩
  have hlt : b < w1.heap.size := (Array.getElem?_eq_some_iff.1 hk).1
  have hs1 := hw.size
  have c0 : w1.cell? ⟨b, 0, none⟩ = some (.pointer (some ⟨b, 0, none⟩)) := by rw [Lib.cell_of_heap hk]; rfl
  have c1 : w1.cell? ⟨b, 1, none⟩ = some v := by rw [Lib.cell_of_heap hk]; rfl
  go_wp2_with (at_builtin; refine Lib.wpList_append_own_stringF _ rfl _ _ 23 9 rfl B 5 i0 (by kernel_rfl) (by kernel_rfl) hi hz0 hz1 hz2 _ _ _ rfl ho s rfl (by unfold maxLen; omega) hl (by omega) ?_)
  intro v' w2 ho2 hg _
  have hk2 : w2.heap[b]? = some (.cells #[.pointer (some ⟨b, 0, none⟩), v] 76 (0, 0)) := by rw [hg.block b hlt (fun e => hn e.symm)]; exact hk
  have d0 : w2.cell? ⟨b, 0, none⟩ = some (.pointer (some ⟨b, 0, none⟩)) := by rw [Lib.cell_of_heap hk2]; rfl
  have d1 : w2.cell? ⟨b, 1, none⟩ = some v := by rw [Lib.cell_of_heap hk2]; rfl
  have f1 : w2.frozen? ⟨b, 1, none⟩ = false := Lib.frozen_of_heap hk2 1
  obtain ⟨p, m, c, rfl⟩ : ∃ p m c, v' = .slice p m c := by
    rcases ho2.2 with ⟨hv, _⟩ | ⟨g, cap, cur, fz, hv, _⟩
    · exact ⟨_, _, _, hv⟩
    · exact ⟨_, _, _, hv⟩
  go_wp2
  go_ret2
  refine ⟨rfl, .inr ?_, (hw.grown hg (by omega) (fun k hk => (ho.lt k hk).1)).setCell (p := ⟨b, 1, none⟩) hb _⟩
  exact Lib.BuilderAtF.put (T := 76) (e := 5) hb hk2 (bs' := bs ++ Lib.strCells s) (by simpa [Lib.strCells_length] using ho2) (by decide)
theorem text_c (t : List UInt8) (w : World) (hQ : tabQ.holds w) (hl_t : t.length = 32) : Calls Tryd.prog 27 #[.agg (bv t).toArray] w fun e w' => e = .returned (.string (str (hexL t))) ∧ Mem w [] w' [] := by
  have hM := Mem.start0 w
  refine f_enter 18 Tryd.func27 rfl rfl rfl ?_
  intro a hE
  replace hE : Env a 18 [(0, _)] := hE
  refine wp_seq_k (fun K1 hK1 => ?_)
  refine wp_plain [false, true] rfl rfl ?_
  refine s_box (ss := [bv t]) [32] hE hM rfl (by simp [Value.cells]) (by simp [*]) rfl ?_; clear hE a; intro a b1 w1 hE hM'
  clear hM; have hM := hM'; clear hM'
  refine s_assign hE rfl rfl ?_; clear hE a; intro a hE
  refine q_nil ?_
  replace hE : Env a 18 [(1, _), (2, _)] := hE.sel [1, 2] rfl
  refine hK1 _ _ ?_
  refine wp_seq_k (fun K2 hK2 => ?_)
  refine wp_plain [false] rfl rfl ?_
  refine s_allocB (e := 5) hE hM zero76 rfl ?_; clear hE a; intro a b3 w2 hE hM' hb3 hs3 hB; clear hM; have hM := hM'; clear hM'
  replace hB : Lib.IsBuilderF 76 5 b3 b3 (Lib.byteCells (hexL (t.take 0))) w2 := hB
  refine q_nil ?_
  refine hK2 _ _ ?_
  refine wp_seq_k (fun K3 hK3 => ?_)
  refine wp_seq_k (fun K4 hK4 => ?_)
  refine wp_plain [true, true] rfl rfl ?_
  refine s_loadN hE rfl (hM.get 0 rfl) row35 rfl (by intro X h; cases h) rfl ?_; clear hE a; intro a hE
  refine s_move hE rfl rfl ?_; clear hE a; intro a hE
  refine q_nil ?_
  replace hE : Env a 18 [(2, _), (3, _), (6, _), (7, _)] := hE.sel [2, 3, 6, 7] rfl
  refine hK4 _ _ ?_
  refine wp_block ?_
  replace hM : Mem _ _ w2 [] := hM.pick [] rfl
  refine c_loop (fun (i : Nat) a w' => i ≤ 32 ∧ Env a 18 [(3, .pointer (some ⟨b3, 0, none⟩)), (6, .agg (bv t).toArray), (7, .int .i64 (i : Int))] ∧ Mem w [] w' [] ∧ Lib.IsBuilderF 76 5 b3 b3 (Lib.byteCells (hexL (t.take i))) w') (fun i => 32 - i) 0 ⟨Nat.zero_le _, hE.sel [3, 6, 7] rfl, hM, hB⟩ ?_
  clear hE hM hB a; rintro i a w3 ⟨hi, hE, hM, hB⟩
  have hc8 := (t.getD i 0).toNat_lt
  refine wp_seq_k (fun K5 hK5 => ?_)
  refine wp_plain [true] rfl rfl ?_
  refine s_bin hE rfl rfl bin_lss rfl ?_; clear hE a; intro a hE
  refine q_nil ?_
  refine hK5 _ _ ?_
  refine wp_seq_k (fun K6 hK6 => ?_)
  refine hE.split 8 rfl (fun hb8 hE' => ?_) (fun hb8 hE' => ?_)
  · replace hE := hE'; clear hE'
    replace hb8 := of_decide_eq_true hb8
    replace hb8 : i < 32 := by omega
    refine wp_cond_true (hE.eval rfl) ?_
    refine wp_skip ?_
    refine hK6 _ _ ?_
    refine wp_seq_k (fun K7 hK7 => ?_)
    refine wp_block ?_
    refine wp_seq_k (fun K8 hK8 => ?_)
    refine wp_plain [true, true] rfl rfl ?_
    refine s_index1 (j := i) hE rfl rfl Tryd.underlying35 one5 (by first | rfl | omega) (by first | omega | decide) (bv_get (by omega)) rfl ?_; clear hE a; intro a hE
    refine s_assign hE rfl rfl ?_; clear hE a; intro a hE
    refine q_nil ?_
    replace hE : Env a 18 [(3, _), (5, _), (6, _), (7, _), (8, _)] := hE.sel [3, 5, 6, 7, 8] rfl
    refine hK8 _ _ ?_
    refine wp_plain [true, true, true, false, true, false] rfl rfl ?_
    refine s_move hE rfl rfl ?_; clear hE a; intro a hE
    refine s_conv hE rfl (cnv_int Tryd.underlying5 Tryd.underlying69 (wrap_u64 (by omega) (by have := (t.getD i 0 : UInt8).toNat_lt; omega))) rfl ?_; clear hE a; intro a hE
    refine s_bin hE rfl rfl (show Bin _ _ _ _ _ (.int .u64 ((((t.getD i 0).toNat) + 256 : Nat) : Int)) from bin_add (by rw [wrap_u64 (by omega) (by omega)]; omega)) rfl ?_; clear hE a; intro a hE
    refine s_call hE rfl Tryd.call48 (fmt16_c ((t.getD i 0).toNat + 256) _ (Ent.stay hQ hM) (by omega) (by have := (t.getD i 0).toNat_lt; omega)) rfl ?_
    rintro e w4 ⟨rfl, hN⟩
    replace hB := bld_mem hB hN
    refine ⟨_, rfl, trivial, ?_⟩; clear hE a; intro a hE
    replace hM : Mem _ _ w4 [] := hM.call0 hN trivial; clear hN
    refine s_sliceStr (s := str (fmt3 ((t.getD i 0).toNat + 256))) (l := 1) (h := (str (fmt3 ((t.getD i 0).toNat + 256))).size) hE rfl Tryd.underlying9 ⟨_, rfl⟩ rfl (by rw [str_size]; have hl_ : (fmt3 ((t.getD i 0).toNat + 256)).length = 3 := rfl; first | omega | (simp; omega)) (Nat.le_refl _) rfl ?_; clear hE a; intro a hE
    replace hE := hE.cast 14 rfl (show _ = Value.string (str ((fmt3 ((t.getD i 0).toNat + 256)).drop 1)) from congrArg Value.string str_drop)
    refine s_call hE rfl Tryd.call47 (wstr_c b3 b3 _ _ _ hB (by show _ + 2 ≤ _; simp [Lib.byteCells]; omega) (Nat.le_of_lt (bld_lt hB))) rfl ?_
    rintro e w5 ⟨rfl, hB2, hw⟩
    replace hM := hM.onBelow hb3 hw
    have hB := bld_hex (by omega) hB2; clear hB2 hw
    refine ⟨_, rfl, trivial, ?_⟩; clear hE a; intro a hE
    refine q_nil ?_
    replace hE : Env a 18 [(3, _), (5, _), (6, _), (7, _), (8, _)] := hE.sel [3, 5, 6, 7, 8] rfl
    refine q_block_n ?_
    refine hK7 _ _ ?_
    refine wp_plain [true, true] rfl rfl ?_
    refine s_bin hE rfl rfl (show Bin _ _ _ _ _ (.int .i64 ((i + 1 : Nat) : Int)) from bin_add (by rw [wrap_i64 (by omega) (by omega)]; omega)) rfl ?_; clear hE a; intro a hE
    refine s_move hE rfl rfl ?_; clear hE a; intro a hE
    refine q_nil ?_
    replace hE : Env a 18 [(3, _), (5, _), (6, _), (7, _), (8, _)] := hE.sel [3, 5, 6, 7, 8] rfl
    exact ⟨i + 1, ⟨by omega, hE.sel [3, 6, 7] rfl, hM, hB⟩, by omega⟩
  · replace hE := hE'; clear hE'
    replace hb8 := of_decide_eq_false hb8
    replace hb8 : ¬ (i < 32) := by omega
    obtain rfl : i = 32 := by omega
    refine wp_cond_false (hE.eval rfl) ?_
    refine wp_exit ?_
    refine q_then_e ?_
    refine q_then_e ?_
    refine q_block_x ?_
    refine hK3 _ _ ?_
    refine wp_seq_k (fun K7 hK7 => ?_)
    refine wp_plain [false, true] rfl rfl ?_
    refine s_call hE rfl Tryd.call49 (Tryd.Builder_String_any_k b3 b3 (hexL (t.take 32)) _ hB (Nat.le_of_lt (bld_lt hB))) rfl ?_
    rintro e w4 ⟨rfl, _, hw, _⟩
    replace hM := hM.onBelow hb3 hw
    clear hw hB
    refine ⟨_, rfl, trivial, ?_⟩; clear hE a; intro a hE
    refine s_assign hE rfl rfl ?_; clear hE a; intro a hE
    refine q_nil ?_
    replace hE : Env a 18 [(2, _), (3, _), (6, _), (7, _), (8, _)] := hE.sel [2, 3, 6, 7, 8] rfl
    refine hK7 _ _ ?_
    refine wp_ret ?_
    refine f_ret1 hE rfl rfl ?_
    exact ⟨(congrArg (fun l => Ending.returned (Value.string (str (hexL l)))) (take_all hl_t)), hM.pick [] rfl⟩
end Go.Proofs.YtbjdbiljkkfklaaDoor
