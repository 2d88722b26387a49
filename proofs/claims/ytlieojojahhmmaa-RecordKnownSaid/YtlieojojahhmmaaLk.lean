/- Walks of functions of the given program that the claim reaches. -/
import Derived.Test.YtlieojojahhmmaaLw
set_option linter.unusedSimpArgs false
set_option linter.unusedVariables false
namespace Go.Proofs.Ytlieojojahhmmaa
open Go Go.Kx
theorem fpl84 : fldPl Try.prog 84 = some (plc 0 [1, 1, 64]) := by kernel_rfl
theorem sl77 : SlT Try.prog 77 84 66 80 := ⟨Try.underlying77, by kernel_rfl, by kernel_rfl, .agg ([[.int .i64 0], [.int .i64 0], bv (List.replicate 64 0)] : List (List Value)).flatten.toArray, by kernel_rfl, rfl⟩
theorem pgw_lim (v : Value) (bs : List UInt8) (c : Nat) (z : Int) (w : World) (hr_bs : (rd v 1 bs.length c (bv bs)).holds w) (hz : z < 0 ∨ 65536 < z) : Calls Try.prog 34 #[v, .int .i64 z] w fun e w' => ∃ v'0, e = .returned (.tuple #[v'0, .int .i64 2]) ∧ Mem w [] w' [own v'0 66 (([] : List Wr).length) (([] : List Wr).flatMap wcl)] := by
  have hM : Mem w [] w [rd v 1 bs.length c (bv bs)] := Mem.startR w (fun g hg => by
    simp only [List.mem_cons, List.not_mem_nil, or_false] at hg
    rcases hg with rfl
    · exact ⟨hr_bs, rfl⟩)
  refine f_enter 49 Try.func34 rfl rfl rfl ?_
  intro a hE
  replace hE : Env a 49 [(0, _), (1, _)] := hE
  refine wp_seq_k (fun K1 hK1 => ?_)
  refine wp_plain [true, true] rfl rfl ?_
  refine s_assign hE rfl rfl ?_; clear hE a; intro a hE
  refine s_assign hE rfl rfl ?_; clear hE a; intro a hE
  refine q_nil ?_
  refine hK1 _ _ ?_
  refine wp_scope_straight ?_
  refine wp_seq_k (fun K2 hK2 => ?_)
  refine wp_block ?_
  refine wp_seq_k (fun K3 hK3 => ?_)
  refine wp_plain [true, true, true, true, true, true, true] rfl rfl ?_
  refine s_move hE rfl rfl ?_; clear hE a; intro a hE
  refine s_bin hE rfl rfl bin_lss rfl ?_; clear hE a; intro a hE
  refine s_move hE rfl rfl ?_; clear hE a; intro a hE
  refine hE.split 11 rfl (fun hb11 hE' => ?_) (fun hb11 hE' => ?_)
  · replace hE := hE'; clear hE'
    replace hb11 := of_decide_eq_true hb11
    refine g_no (b := true) hE rfl rfl rfl ?_; clear hE a; intro a hE
    refine g_no (b := true) hE rfl rfl rfl ?_; clear hE a; intro a hE
    refine s_pickt hE rfl rfl rfl ?_; clear hE a; intro a hE
    refine s_assign hE rfl rfl ?_; clear hE a; intro a hE
    refine q_nil ?_
    replace hE : Env a 49 [(0, _), (1, _), (4, _), (5, _), (8, _)] := hE.sel [0, 1, 4, 5, 8] rfl
    refine hK3 _ _ ?_
    refine wp_cond_true (hE.eval rfl) ?_
    refine wp_seq_k (fun K4 hK4 => ?_)
    refine wp_plain [true, true] rfl rfl ?_
    refine s_assign hE rfl rfl ?_; clear hE a; intro a hE
    refine s_assign hE rfl rfl ?_; clear hE a; intro a hE
    refine q_nil ?_
    refine hK4 _ _ ?_
    refine wp_ret ?_
    refine q_block_r ?_
    refine q_then_r ?_
    refine q_ng_r ?_
    refine f_ret2 hE rfl rfl rfl ?_
    replace hM := hM.addNil 66
    replace hM := hM.ownEq (m' := ([] : List Wr).length) (cs' := ([] : List Wr).flatMap wcl) rfl rfl
    exact ⟨_, (by first | rfl | (simp; done)), hM.pick [0] rfl⟩
  · replace hE := hE'; clear hE'
    replace hb11 := of_decide_eq_false hb11
    refine g_yes hE rfl rfl ?_
    refine s_move hE rfl rfl ?_; clear hE a; intro a hE
    refine g_yes hE rfl rfl ?_
    refine s_bin hE rfl rfl bin_gtr rfl ?_; clear hE a; intro a hE
    refine s_pickf hE rfl rfl rfl ?_; clear hE a; intro a hE
    refine s_assign hE rfl rfl ?_; clear hE a; intro a hE
    refine q_nil ?_
    replace hE : Env a 49 [(0, _), (1, _), (4, _), (5, _), (8, _)] := hE.sel [0, 1, 4, 5, 8] rfl
    refine hK3 _ _ ?_
    replace hE := hE.cast 8 rfl (show _ = Value.bool true from (congrArg Value.bool (decide_eq_true (by omega))))
    refine wp_cond_true (hE.eval rfl) ?_
    refine wp_seq_k (fun K4 hK4 => ?_)
    refine wp_plain [true, true] rfl rfl ?_
    refine s_assign hE rfl rfl ?_; clear hE a; intro a hE
    refine s_assign hE rfl rfl ?_; clear hE a; intro a hE
    refine q_nil ?_
    refine hK4 _ _ ?_
    refine wp_ret ?_
    refine q_block_r ?_
    refine q_then_r ?_
    refine q_ng_r ?_
    refine f_ret2 hE rfl rfl rfl ?_
    replace hM := hM.addNil 66
    replace hM := hM.ownEq (m' := ([] : List Wr).length) (cs' := ([] : List Wr).flatMap wcl) rfl rfl
    exact ⟨_, (by first | rfl | (simp; done)), hM.pick [0] rfl⟩
theorem pgw_len (v : Value) (bs : List UInt8) (c : Nat) (n : Nat) (w : World) (hr_bs : (rd v 1 bs.length c (bv bs)).holds w) (hn : n ≤ 65536) (hlen : bs.length ≠ 69 * n) : Calls Try.prog 34 #[v, .int .i64 (n : Int)] w fun e w' => ∃ v'0, e = .returned (.tuple #[v'0, .int .i64 4]) ∧ Mem w [] w' [own v'0 66 (([] : List Wr).length) (([] : List Wr).flatMap wcl)] := by
  have hM : Mem w [] w [rd v 1 bs.length c (bv bs)] := Mem.startR w (fun g hg => by
    simp only [List.mem_cons, List.not_mem_nil, or_false] at hg
    rcases hg with rfl
    · exact ⟨hr_bs, rfl⟩)
  refine f_enter 49 Try.func34 rfl rfl rfl ?_
  intro a hE
  replace hE : Env a 49 [(0, _), (1, _)] := hE
  refine wp_seq_k (fun K1 hK1 => ?_)
  refine wp_plain [true, true] rfl rfl ?_
  refine s_assign hE rfl rfl ?_; clear hE a; intro a hE
  refine s_assign hE rfl rfl ?_; clear hE a; intro a hE
  refine q_nil ?_
  refine hK1 _ _ ?_
  refine wp_scope_straight ?_
  refine wp_seq_k (fun K2 hK2 => ?_)
  refine wp_block ?_
  refine wp_seq_k (fun K3 hK3 => ?_)
  refine wp_plain [true, true, true, true, true, true, true] rfl rfl ?_
  refine s_move hE rfl rfl ?_; clear hE a; intro a hE
  refine s_bin hE rfl rfl bin_lss rfl ?_; clear hE a; intro a hE
  refine s_move hE rfl rfl ?_; clear hE a; intro a hE
  replace hE := hE.cast 11 rfl (show _ = Value.bool false from (congrArg Value.bool (decide_eq_false (by omega))))
  refine g_yes hE rfl rfl ?_
  refine s_move hE rfl rfl ?_; clear hE a; intro a hE
  refine g_yes hE rfl rfl ?_
  refine s_bin hE rfl rfl bin_gtr rfl ?_; clear hE a; intro a hE
  refine s_pickf hE rfl rfl rfl ?_; clear hE a; intro a hE
  refine s_assign hE rfl rfl ?_; clear hE a; intro a hE
  refine q_nil ?_
  replace hE : Env a 49 [(0, _), (1, _), (4, _), (5, _), (8, _)] := hE.sel [0, 1, 4, 5, 8] rfl
  refine hK3 _ _ ?_
  replace hE := hE.cast 8 rfl (show _ = Value.bool false from (congrArg Value.bool (decide_eq_false (by omega))))
  refine wp_cond_false (hE.eval rfl) ?_
  refine wp_seq_k (fun K4 hK4 => ?_)
  refine wp_plain [true, true, true, true, true, true] rfl rfl ?_
  refine s_move hE rfl rfl ?_; clear hE a; intro a hE
  refine s_len hE rfl Try.underlying55 (rd_slice (hM.get 0 rfl)) rfl ?_; clear hE a; intro a hE
  refine s_move hE rfl rfl ?_; clear hE a; intro a hE
  refine s_bin hE rfl rfl (show Bin _ _ _ _ _ (.int .i64 ((n * 69 : Nat) : Int)) from bin_mul (by rw [wrap_i64 (by omega) (by omega)]; omega)) rfl ?_; clear hE a; intro a hE
  refine s_bin hE rfl rfl bin_neq rfl ?_; clear hE a; intro a hE
  refine s_assign hE rfl rfl ?_; clear hE a; intro a hE
  refine q_nil ?_
  replace hE : Env a 49 [(0, _), (1, _), (4, _), (5, _), (8, _), (15, _)] := hE.sel [0, 1, 4, 5, 8, 15] rfl
  refine hK4 _ _ ?_
  replace hE := hE.cast 15 rfl (show _ = Value.bool true from (congrArg Value.bool (by first | rfl | (rw [decide_eq_false (by omega)]; rfl))))
  refine wp_cond_true (hE.eval rfl) ?_
  refine wp_seq_k (fun K5 hK5 => ?_)
  refine wp_plain [true, true] rfl rfl ?_
  refine s_assign hE rfl rfl ?_; clear hE a; intro a hE
  refine s_assign hE rfl rfl ?_; clear hE a; intro a hE
  refine q_nil ?_
  refine hK5 _ _ ?_
  refine wp_ret ?_
  refine q_block_r ?_
  refine q_then_r ?_
  refine q_ng_r ?_
  refine f_ret2 hE rfl rfl rfl ?_
  replace hM := hM.addNil 66
  replace hM := hM.ownEq (m' := ([] : List Wr).length) (cs' := ([] : List Wr).flatMap wcl) rfl rfl
  exact ⟨_, (by first | rfl | (simp; done)), hM.pick [0] rfl⟩
theorem pgw_ok (v : Value) (bs : List UInt8) (c : Nat) (n : Nat) (w : World) (hr_bs : (rd v 1 bs.length c (bv bs)).holds w) (hn : n ≤ 65536) (hlen : bs.length = 69 * n) (hall : (wAts bs n).all mayW = true) : Calls Try.prog 34 #[v, .int .i64 (n : Int)] w fun e w' => ∃ v'0, e = .returned (.tuple #[v'0, .int .i64 0]) ∧ Mem w [] w' [own v'0 66 ((wAts bs n).length) ((wAts bs n).flatMap wcl)] := by
  have hM : Mem w [] w [rd v 1 bs.length c (bv bs)] := Mem.startR w (fun g hg => by
    simp only [List.mem_cons, List.not_mem_nil, or_false] at hg
    rcases hg with rfl
    · exact ⟨hr_bs, rfl⟩)
  refine f_enter 49 Try.func34 rfl rfl rfl ?_
  intro a hE
  replace hE : Env a 49 [(0, _), (1, _)] := hE
  refine wp_seq_k (fun K1 hK1 => ?_)
  refine wp_plain [true, true] rfl rfl ?_
  refine s_assign hE rfl rfl ?_; clear hE a; intro a hE
  refine s_assign hE rfl rfl ?_; clear hE a; intro a hE
  refine q_nil ?_
  refine hK1 _ _ ?_
  refine wp_scope_straight ?_
  refine wp_seq_k (fun K2 hK2 => ?_)
  refine wp_block ?_
  refine wp_seq_k (fun K3 hK3 => ?_)
  refine wp_plain [true, true, true, true, true, true, true] rfl rfl ?_
  refine s_move hE rfl rfl ?_; clear hE a; intro a hE
  refine s_bin hE rfl rfl bin_lss rfl ?_; clear hE a; intro a hE
  refine s_move hE rfl rfl ?_; clear hE a; intro a hE
  replace hE := hE.cast 11 rfl (show _ = Value.bool false from (congrArg Value.bool (decide_eq_false (by omega))))
  refine g_yes hE rfl rfl ?_
  refine s_move hE rfl rfl ?_; clear hE a; intro a hE
  refine g_yes hE rfl rfl ?_
  refine s_bin hE rfl rfl bin_gtr rfl ?_; clear hE a; intro a hE
  refine s_pickf hE rfl rfl rfl ?_; clear hE a; intro a hE
  refine s_assign hE rfl rfl ?_; clear hE a; intro a hE
  refine q_nil ?_
  replace hE : Env a 49 [(0, _), (1, _), (4, _), (5, _), (8, _)] := hE.sel [0, 1, 4, 5, 8] rfl
  refine hK3 _ _ ?_
  replace hE := hE.cast 8 rfl (show _ = Value.bool false from (congrArg Value.bool (decide_eq_false (by omega))))
  refine wp_cond_false (hE.eval rfl) ?_
  refine wp_seq_k (fun K4 hK4 => ?_)
  refine wp_plain [true, true, true, true, true, true] rfl rfl ?_
  refine s_move hE rfl rfl ?_; clear hE a; intro a hE
  refine s_len hE rfl Try.underlying55 (rd_slice (hM.get 0 rfl)) rfl ?_; clear hE a; intro a hE
  refine s_move hE rfl rfl ?_; clear hE a; intro a hE
  refine s_bin hE rfl rfl (show Bin _ _ _ _ _ (.int .i64 ((n * 69 : Nat) : Int)) from bin_mul (by rw [wrap_i64 (by omega) (by omega)]; omega)) rfl ?_; clear hE a; intro a hE
  refine s_bin hE rfl rfl bin_neq rfl ?_; clear hE a; intro a hE
  refine s_assign hE rfl rfl ?_; clear hE a; intro a hE
  refine q_nil ?_
  replace hE : Env a 49 [(0, _), (1, _), (4, _), (5, _), (8, _), (15, _)] := hE.sel [0, 1, 4, 5, 8, 15] rfl
  refine hK4 _ _ ?_
  replace hE := hE.cast 15 rfl (show _ = Value.bool false from (congrArg Value.bool (by first | rfl | (rw [decide_eq_true (by omega)]; rfl))))
  refine wp_cond_false (hE.eval rfl) ?_
  refine wp_skip ?_
  refine q_block_n ?_
  refine hK2 _ _ ?_
  refine wp_seq_k (fun K5 hK5 => ?_)
  refine wp_plain [true, false, true] rfl rfl ?_
  refine s_move hE rfl rfl ?_; clear hE a; intro a hE
  refine s_call hE rfl Try.call48 (open_c bs _ _ _ (hM.get 0 rfl) (by first | omega | (simp; done) | (simp; omega))) rfl ?_
  rintro e w1 ⟨tb22, bb22, rfl, hbb22, hN⟩
  refine ⟨_, rfl, trivial, ?_⟩; clear hE a; intro a hE
  replace hM : Mem _ _ w1 [_, _] := hM.callN hN (fun e he x hx => by rw [List.mem_singleton.1 he] at hx; exact hbb22 x hx); clear hN
  refine s_assign hE rfl rfl ?_; clear hE a; intro a hE
  refine q_nil ?_
  replace hE : Env a 49 [(0, _), (1, _), (4, _), (5, _), (6, _), (8, _), (15, _)] := hE.sel [0, 1, 4, 5, 6, 8, 15] rfl
  refine hK5 _ _ ?_
  refine wp_seq_k (fun K6 hK6 => ?_)
  refine wp_plain [true] rfl rfl ?_
  refine s_assign hE rfl rfl ?_; clear hE a; intro a hE
  refine q_nil ?_
  refine hK6 _ _ ?_
  refine wp_seq_k (fun K7 hK7 => ?_)
  refine wp_label ?_
  refine hK7 _ _ ?_
  refine wp_seq_k (fun K8 hK8 => ?_)
  refine wp_block ?_
  replace hM := hM.addNil 66
  replace hM := hM.ownEq (m' := ([] : List Wr).length) (cs' := ([] : List Wr).flatMap wcl) rfl rfl
  replace hM := Mem.ownRowsEq (f := wcl) (ls := ([] : List Wr)) (ms := wAts bs 0) hM rfl
  replace hM : Mem _ _ w1 [_, _, _] := hM.pick [1, 0, 2] rfl
  replace hM := hM.tapEq (q := bs.drop (69 * 0)) (by simp)
  replace hM : Mem _ _ w1 [_, _, _] := hM.pick [1, 0, 2] rfl
  refine c_loop (fun (i : Nat) a w' => i ≤ n ∧ ∃ vl4, Env a 49 [(0, v), (1, .int .i64 ((n : Nat) : Int)), (4, vl4), (5, .int .i64 4), (6, .pointer (some ⟨tb22, 0, none⟩)), (8, .bool false), (15, .bool false)] ∧ Mem w [] w' [own vl4 66 ((wAts bs i).length) ((wAts bs i).flatMap wcl), tap tb22 bb22 (bs.drop (69 * i)) false 127, rd v 1 bs.length c (bv bs)]) (fun i => n - i) 0 ⟨Nat.zero_le _, _, hE.sel [0, 1, 4, 5, 6, 8, 15] rfl, hM⟩ ?_
  clear hE hM a; rintro i a w2 ⟨hi, vl4, hE, hM⟩
  refine wp_block ?_
  refine wp_block ?_
  refine wp_seq_k (fun K9 hK9 => ?_)
  refine wp_plain [true, false, true] rfl rfl ?_
  refine s_move hE rfl rfl ?_; clear hE a; intro a hE
  refine s_call hE rfl Try.call62 (tapEnd_c tb22 bb22 (bs.drop (69 * i)) false _ (hM.get 1 rfl)) rfl ?_
  rintro e w3 ⟨rfl, hN⟩
  refine ⟨_, rfl, trivial, ?_⟩; clear hE a; intro a hE
  replace hM : Mem _ _ w3 [_, _, _] := hM.call0 hN trivial; clear hN
  refine s_assign hE rfl rfl ?_; clear hE a; intro a hE
  refine q_nil ?_
  replace hE : Env a 49 [(0, _), (1, _), (4, _), (5, _), (6, _), (8, _), (15, _), (42, _)] := hE.sel [0, 1, 4, 5, 6, 8, 15, 42] rfl
  refine hK9 _ _ ?_
  refine hE.split 42 rfl (fun hb42 hE' => ?_) (fun hb42 hE' => ?_)
  · replace hE := hE'; clear hE'
    have hend := gw_end hb42
    obtain rfl : n = i := by omega
    refine wp_cond_true (hE.eval rfl) ?_
    refine wp_seq_k (fun K10 hK10 => ?_)
    refine wp_plain [true] rfl rfl ?_
    refine s_assign hE rfl rfl ?_; clear hE a; intro a hE
    refine q_nil ?_
    refine hK10 _ _ ?_
    refine wp_exit ?_
    refine q_block_o rfl ?_
    refine q_block_o rfl ?_
    refine q_then_e ?_
    refine q_block_x ?_
    refine hK8 _ _ ?_
    refine wp_seq_k (fun K11 hK11 => ?_)
    refine wp_seq_k (fun K12 hK12 => ?_)
    refine wp_plain [true, true] rfl rfl ?_
    refine s_move hE rfl rfl ?_; clear hE a; intro a hE
    refine s_bin hE rfl rfl bin_neq rfl ?_; clear hE a; intro a hE
    replace hE := hE.cast 46 rfl (show _ = Value.bool false from (congrArg Value.bool (by decide)))
    refine q_nil ?_
    replace hE : Env a 49 [(0, _), (1, _), (4, _), (5, _), (6, _), (8, _), (15, _), (42, _), (46, _)] := hE.sel [0, 1, 4, 5, 6, 8, 15, 42, 46] rfl
    refine hK12 _ _ ?_
    refine wp_cond_false (hE.eval rfl) ?_
    refine wp_skip ?_
    refine hK11 _ _ ?_
    refine wp_seq_k (fun K13 hK13 => ?_)
    refine wp_plain [true, true, true, true] rfl rfl ?_
    refine s_move hE rfl rfl ?_; clear hE a; intro a hE
    refine s_move hE rfl rfl ?_; clear hE a; intro a hE
    refine s_assign hE rfl rfl ?_; clear hE a; intro a hE
    refine s_assign hE rfl rfl ?_; clear hE a; intro a hE
    refine q_nil ?_
    replace hE : Env a 49 [(0, _), (1, _), (4, _), (5, _), (6, _), (8, _), (15, _), (42, _), (46, _)] := hE.sel [0, 1, 4, 5, 6, 8, 15, 42, 46] rfl
    refine hK13 _ _ ?_
    refine wp_ret ?_
    refine q_ng_r ?_
    refine f_ret2 hE rfl rfl rfl ?_
    exact ⟨_, (by first | rfl | (simp; done)), hM.pick [0] rfl⟩
  · replace hE := hE'; clear hE'
    have hmore := gw_more hb42
    have hlt : i < n := by omega
    have hv1 := val1 (l := (bs.drop (69 * i)).take 1) (by simp; omega)
    have hv4 := val4 (l := (bs.drop (69 * i + 1)).take 4) (by simp; omega)
    refine wp_cond_false (hE.eval rfl) ?_
    refine wp_seq_k (fun K10 hK10 => ?_)
    refine wp_plain [true, false, true, true, false, true, true, false, false] rfl rfl ?_
    refine s_move hE rfl rfl ?_; clear hE a; intro a hE
    replace hM : Mem _ _ w3 [_, _, _] := hM.pick [1, 0, 2] rfl
    refine s_call hE rfl Try.call57 (tapNum_ok tb22 bb22 (bs.drop (69 * i)) 1 _ (hM.get 0 rfl) rfl (by have hl_ : (bs.drop (69 * i)).length = 69 * n - 69 * i := (by simp; omega); first | omega | (simp; done) | (simp; omega))) rfl ?_
    rintro e w4 ⟨rfl, hN⟩
    refine ⟨_, rfl, trivial, ?_⟩; clear hE a; intro a hE
    replace hM : Mem _ _ w4 [_, _, _] := hM.call1 hN (fun f hf x hx => by rw [List.mem_singleton.1 hf] at hx; exact .inl hx); clear hN
    replace hM := hM.tapEq (q := bs.drop (69 * i + 1)) (by first | (rw [List.drop_drop]; done) | (rw [List.drop_drop]; congr 1; omega))
    refine s_conv hE rfl (cnv_int Try.underlying24 Try.underlying3 (wrap_i64 (by omega) (by omega))) rfl ?_; clear hE a; intro a hE
    refine s_move hE rfl rfl ?_; clear hE a; intro a hE
    refine s_call hE rfl Try.call57 (tapNum_ok tb22 bb22 (bs.drop (69 * i + 1)) 4 _ (hM.get 0 rfl) rfl (by have hl_ : (bs.drop (69 * i + 1)).length = bs.length - (69 * i + 1) := (by simp; try omega); first | omega | (simp; done) | (simp; omega))) rfl ?_
    rintro e w5 ⟨rfl, hN⟩
    refine ⟨_, rfl, trivial, ?_⟩; clear hE a; intro a hE
    replace hM : Mem _ _ w5 [_, _, _] := hM.call1 hN (fun f hf x hx => by rw [List.mem_singleton.1 hf] at hx; exact .inl hx); clear hN
    replace hM := hM.tapEq (q := bs.drop (69 * i + 5)) (by first | (rw [List.drop_drop]; done) | (rw [List.drop_drop]; congr 1; omega))
    refine s_conv hE rfl (cnv_int Try.underlying24 Try.underlying3 (wrap_i64 (by omega) (by omega))) rfl ?_; clear hE a; intro a hE
    refine s_buildS [[.int .i64 ((val ((bs.drop (69 * i)).take 1) : Nat) : Int)], [.int .i64 ((val ((bs.drop (69 * i + 1)).take 4) : Nat) : Int)]] hE rfl zero84 rfl fpl84 (by simp [PartsOk, Value.cells, *]) rfl ?_; clear hE a; intro a hE
    replace hE := hE.cast 29 rfl (show _ = Value.agg ([[.int .i64 ((val ((bs.drop (69 * i)).take 1) : Nat) : Int)], [.int .i64 ((val ((bs.drop (69 * i + 1)).take 4) : Nat) : Int)], bv (List.replicate 64 (0 : UInt8))] : List (List Value)).flatten.toArray from (by first | rfl | simp [setAll]))
    refine s_alloc [1, 1, 64] hE hM zero84 rfl rfl ?_; clear hE a; intro a b7 w6 hE hM'
    clear hM; have hM := hM'; clear hM'
    refine s_storeSegs 0 3 (vss := [[.int .i64 ((val ((bs.drop (69 * i)).take 1) : Nat) : Int)], [.int .i64 ((val ((bs.drop (69 * i + 1)).take 4) : Nat) : Int)], bv (List.replicate 64 (0 : UInt8))]) hE rfl rfl hM rfl sz84 (by have hl_s2 : (List.replicate 64 (0 : UInt8)).length = 64 := (by first | (simp; done) | (simp [*]; done) | (simp; omega));  simp only [List.map_cons, List.map_nil, bv_length, List.length_cons, List.length_nil, List.take_succ_cons, List.take_zero, List.drop_zero, List.drop_succ_cons, hl_s2]) (by decide) rfl (one_fl ⟨one1 rfl, one1 rfl, bv_one _, trivial⟩) rfl (by intro X h; cases h) ?_; intro w7 hM'; clear hM; have hM := hM'; clear hM'
    simp only [List.take_zero, List.take_succ_cons, List.drop_zero, List.drop_succ_cons, List.take_nil, List.drop_nil, List.nil_append, List.append_nil, List.cons_append] at hM
    refine q_nil ?_
    replace hE : Env a 49 [(0, _), (1, _), (4, _), (5, _), (6, _), (7, _), (8, _), (15, _), (42, _)] := hE.sel [0, 1, 4, 5, 6, 7, 8, 15, 42] rfl
    refine hK10 _ _ ?_
    refine wp_seq_k (fun K11 hK11 => ?_)
    refine wp_treeM hM (by kernel_rfl) (fun _ => True) (fun _ => True) (.re [(0, true), (1, true), (2, true), (3, false), (4, false)] (.fl 3 (.fl 0 (.weak (.or 3 (.cut (.re [(4, false)] (.fl 0 (.fl 0 (.weak (.or 4 (.cut (.re [] (.weak (.leaf 0)))) (.stop))))))) (.stop)))))) [(0, true), (1, true), (2, true), (3, false), (4, false)] [(0, [(1, 0), (4, 1)]), (1, [(4, 1)]), (3, [(4, 3)]), (4, [])] (by kernel_rfl) ?_
    intro w8 hM' hww8; clear hM; have hM := hM'; clear hM'
    refine o_re ?_
    refine o_fl rfl ?_
    refine s_fieldAddr hE rfl fo84_2 rfl ?_; clear hE a; intro a hE
    refine s_sliceArr (l := 0) (h := 64) (mx' := 64) hE rfl arr59 rfl rfl rfl (by simp) (by omega) (by omega) (by omega) rfl ?_; clear hE a; intro a hE
    replace hE := hE.cast 31 rfl (show _ = Value.slice (some ⟨b7, 2, none⟩) 64 64 from rfl)
    refine s_move hE rfl rfl ?_; clear hE a; intro a hE
    refine q_nil (q_nx ?_)
    refine o_fl rfl ?_
    refine q_nil (q_nx ?_)
    refine o_weak (fun b => b ∈ [tb22]) (fun _ _ => trivial) ?_
    refine o_or rfl ?_ ?_
    · replace hM : Mem _ _ w8 [_, _, _, _] := hM.pick [1, 0, 2, 3] rfl
      have hlt33_1 : ((bs.drop (69 * i + 5)).take 64).length = 64 := (by have hl_q : (bs.drop (69 * i + 5)).length = bs.length - (69 * i + 5) := (by simp; try omega); simp; try omega)
      refine s_call hE rfl Try.call56 (tapBytes_ok tb22 bb22 (bs.drop (69 * i + 5)) 64 _ (hM.get 0 rfl) (by have hl_ : (bs.drop (69 * i + 5)).length = bs.length - (69 * i + 5) := (by simp; try omega); first | omega | (simp; done) | (simp; omega))) rfl ?_
      rintro e w9 ⟨v33, rfl, hvt33_1, hN⟩
      refine ⟨_, rfl, hN.sta, ?_⟩; clear hE a; intro a hE
      replace hM : Mem _ _ w9 [_, _, _, _, _] := hM.call1 hN (fun f hf x hx => (List.mem_cons.1 hf).elim (fun h => by subst h; exact .inl (hvt33_1 x (by first | exact hx | (rw [hlt33_1] at hx; exact hx)))) (fun h => by rw [List.mem_singleton.1 h] at hx; exact .inl hx)); clear hN
      replace hM : Mem _ _ w9 [_, _, _, _, _] := hM.pick [1, 0, 2, 3, 4] rfl
      replace hM := hM.tapEq (q := bs.drop (69 * i + 69)) (by first | (rw [List.drop_drop]; done) | (rw [List.drop_drop]; congr 1; omega))
      refine q_nil (q_nx ?_)
      refine o_cut (fun _ => True) ?_
      refine o_re ?_
      refine o_fl rfl ?_
      refine q_nil (q_nx ?_)
      refine o_fl rfl ?_
      refine q_nil (q_nx ?_)
      refine o_weak (fun b => b = b7) (fun _ _ => trivial) ?_
      refine o_or rfl ?_ ?_
      · replace hM : Mem _ _ w9 [_, _, _, _, _] := hM.pick [2, 0, 1, 3, 4] rfl
        refine s_copySeg 2 hE rfl rfl hM (hM.get 2 rfl) hlt33_1 (bv_one _) sl55 rfl ((bv_length _).trans (by first | (simp; done) | (simp [*]; done) | (simp; omega))) rfl (by intro X h; cases h; rfl) rfl ?_; clear hE a; intro a w10 hE hM'; clear hM; have hM := hM'; clear hM'
        simp only [List.set_cons_zero, List.set_cons_succ] at hM
        refine q_nil (q_nx ?_)
        refine o_cut (fun _ => True) ?_
        refine o_re ?_
        refine o_weak (fun _ => False) (fun _ _ => trivial) ?_
        refine o_leaf rfl rfl ?_
        refine q_nil (q_ph (q_nil ?_))
        replace hE : Env a 49 [(0, _), (1, _), (4, _), (5, _), (6, _), (7, _), (8, _), (15, _), (42, _)] := hE.sel [0, 1, 4, 5, 6, 7, 8, 15, 42] rfl
        refine hK11 _ _ ?_
        refine wp_seq_k (fun K12 hK12 => ?_)
        refine wp_seq_k (fun K13 hK13 => ?_)
        refine wp_plain [true, false, true] rfl rfl ?_
        refine s_loadN hE rfl (hM.get 0 rfl) row84 rfl (by intro X h; cases h) rfl ?_; clear hE a; intro a hE
        replace hE := hE.cast 35 rfl (show _ = Value.agg ([[.int .i64 ((val ((bs.drop (69 * i)).take 1) : Nat) : Int)], [.int .i64 ((val ((bs.drop (69 * i + 1)).take 4) : Nat) : Int)], bv ((bs.drop (69 * i + 5)).take 64)] : List (List Value)).flatten.toArray from (by first | rfl | simp))
        refine s_call hE rfl Try.call60 (may_c ((val ((bs.drop (69 * i)).take 1) : Nat) : Int) ((val ((bs.drop (69 * i + 1)).take 4) : Nat) : Int) ((bs.drop (69 * i + 5)).take 64) _ hlt33_1) rfl ?_
        rintro e w11 ⟨rfl, hN⟩
        refine ⟨_, rfl, trivial, ?_⟩; clear hE a; intro a hE
        replace hM : Mem _ _ w11 [_, _, _, _, _] := hM.call0 hN trivial; clear hN
        refine s_not hE rfl rfl ?_; clear hE a; intro a hE
        refine q_nil ?_
        replace hE : Env a 49 [(0, _), (1, _), (4, _), (5, _), (6, _), (7, _), (8, _), (15, _), (37, _), (42, _)] := hE.sel [0, 1, 4, 5, 6, 7, 8, 15, 37, 42] rfl
        refine hK13 _ _ ?_
        replace hE := hE.cast 37 rfl (show _ = Value.bool false from (congrArg Value.bool (congrArg not (gw_all hall (show i < n by omega)))))
        refine wp_cond_false (hE.eval rfl) ?_
        refine wp_skip ?_
        refine hK12 _ _ ?_
        refine wp_plain [true, true, false, false, true] rfl rfl ?_
        refine s_move hE rfl rfl ?_; clear hE a; intro a hE
        refine s_loadN hE rfl (hM.get 0 rfl) row84 rfl (by intro X h; cases h) rfl ?_; clear hE a; intro a hE
        replace hE := hE.cast 39 rfl (show _ = Value.agg ([[.int .i64 ((val ((bs.drop (69 * i)).take 1) : Nat) : Int)], [.int .i64 ((val ((bs.drop (69 * i + 1)).take 4) : Nat) : Int)], bv ((bs.drop (69 * i + 5)).take 64)] : List (List Value)).flatten.toArray from (by first | rfl | simp))
        have hro40_0 : OkWr (((val ((bs.drop (69 * i)).take 1) : Nat) : Int), ((val ((bs.drop (69 * i + 1)).take 4) : Nat) : Int), (bs.drop (69 * i + 5)).take 64) := ⟨hlt33_1, by unfold In64; simp only; omega, by unfold In64; simp only; omega⟩
        refine s_buildSlice (xs := [.tmp 39]) (([(((val ((bs.drop (69 * i)).take 1) : Nat) : Int), ((val ((bs.drop (69 * i + 1)).take 4) : Nat) : Int), (bs.drop (69 * i + 5)).take 64)] : List Wr).flatMap wcl) hE hM sl77 rfl rfl rfl (by intro v hv; simp only [List.mem_cons, List.not_mem_nil, or_false] at hv; rcases hv with rfl; exact wcl_len hro40_0.1) (by simp [Value.cells, wcl]) rfl rfl rfl ?_; clear hE a; intro a v40 w12 hE hM'
        clear hM; have hM := hM'; clear hM'
        replace hM := hM.ownEq (m' := ([(((val ((bs.drop (69 * i)).take 1) : Nat) : Int), ((val ((bs.drop (69 * i + 1)).take 4) : Nat) : Int), (bs.drop (69 * i + 5)).take 64)] : List Wr).length) (cs' := ([(((val ((bs.drop (69 * i)).take 1) : Nat) : Int), ((val ((bs.drop (69 * i + 1)).take 4) : Nat) : Int), (bs.drop (69 * i + 5)).take 64)] : List Wr).flatMap wcl) rfl rfl
        replace hM : Mem _ _ w12 [_, _, _, _, _, _] := hM.pick [4, 0, 1, 2, 3, 5] rfl
        obtain ⟨cq1, hq1⟩ := own_rd (hM.get 1 rfl)
        refine s_append hE rfl rfl hM sl77 (Src.rd Try.underlying77 hq1 (wcls_one _)) (len47 (by first | omega | (simp; omega))) (by first | omega | (simp; omega)) (by intro X h; cases h) rfl ?_; clear hE a; intro a v41 w13 hE hM'; clear hM; have hM := hM'; clear hM'
        replace hM := Mem.ownRowsL (f := wcl) (ls := wAts bs i) (ms := ([(((val ((bs.drop (69 * i)).take 1) : Nat) : Int), ((val ((bs.drop (69 * i + 1)).take 4) : Nat) : Int), (bs.drop (69 * i + 5)).take 64)] : List Wr)) hM rfl rfl
        replace hM : Mem _ _ w13 [_, _, _, _, _] := hM.pick [0, 2, 3, 4, 5] rfl
        refine s_assign hE rfl rfl ?_; clear hE a; intro a hE
        refine q_nil ?_
        replace hE : Env a 49 [(0, _), (1, _), (4, _), (5, _), (6, _), (7, _), (8, _), (15, _), (37, _), (42, _)] := hE.sel [0, 1, 4, 5, 6, 7, 8, 15, 37, 42] rfl
        refine q_block_n ?_
        refine q_block_n ?_
        replace hM := Mem.ownRowsEq (f := wcl) (ls := (wAts bs i) ++ ([(((val ((bs.drop (69 * i)).take 1) : Nat) : Int), ((val ((bs.drop (69 * i + 1)).take 4) : Nat) : Int), (bs.drop (69 * i + 5)).take 64)] : List Wr)) (ms := wAts bs (i + 1)) hM ((wAts_succ _ _).symm)
        replace hM : Mem _ _ w13 [_, _, _, _, _] := hM.pick [2, 0, 1, 3, 4] rfl
        replace hM := hM.tapEq (q := bs.drop (69 * (i + 1))) (by first | rfl | (congr 1; done) | (congr 1; omega))
        replace hM : Mem _ _ w13 [_, _, _] := hM.pick [0, 1, 4] rfl
        replace hM : Mem _ _ w13 [_, _, _] := hM.pick [1, 0, 2] rfl
        exact ⟨i + 1, ⟨by omega, _, hE.sel [0, 1, 4, 5, 6, 8, 15] rfl, hM⟩, by omega⟩
      trivial
    trivial
theorem pgw_bad (v : Value) (bs : List UInt8) (c : Nat) (n : Nat) (w : World) (hr_bs : (rd v 1 bs.length c (bv bs)).holds w) (hn : n ≤ 65536) (hlen : bs.length = 69 * n) (hall : (wAts bs n).all mayW = false) : Calls Try.prog 34 #[v, .int .i64 (n : Int)] w fun e w' => ∃ v'0, e = .returned (.tuple #[v'0, .int .i64 4]) ∧ Mem w [] w' [own v'0 66 (([] : List Wr).length) (([] : List Wr).flatMap wcl)] := by
  have hM : Mem w [] w [rd v 1 bs.length c (bv bs)] := Mem.startR w (fun g hg => by
    simp only [List.mem_cons, List.not_mem_nil, or_false] at hg
    rcases hg with rfl
    · exact ⟨hr_bs, rfl⟩)
  refine f_enter 49 Try.func34 rfl rfl rfl ?_
  intro a hE
  replace hE : Env a 49 [(0, _), (1, _)] := hE
  refine wp_seq_k (fun K1 hK1 => ?_)
  refine wp_plain [true, true] rfl rfl ?_
  refine s_assign hE rfl rfl ?_; clear hE a; intro a hE
  refine s_assign hE rfl rfl ?_; clear hE a; intro a hE
  refine q_nil ?_
  refine hK1 _ _ ?_
  refine wp_scope_straight ?_
  refine wp_seq_k (fun K2 hK2 => ?_)
  refine wp_block ?_
  refine wp_seq_k (fun K3 hK3 => ?_)
  refine wp_plain [true, true, true, true, true, true, true] rfl rfl ?_
  refine s_move hE rfl rfl ?_; clear hE a; intro a hE
  refine s_bin hE rfl rfl bin_lss rfl ?_; clear hE a; intro a hE
  refine s_move hE rfl rfl ?_; clear hE a; intro a hE
  replace hE := hE.cast 11 rfl (show _ = Value.bool false from (congrArg Value.bool (decide_eq_false (by omega))))
  refine g_yes hE rfl rfl ?_
  refine s_move hE rfl rfl ?_; clear hE a; intro a hE
  refine g_yes hE rfl rfl ?_
  refine s_bin hE rfl rfl bin_gtr rfl ?_; clear hE a; intro a hE
  refine s_pickf hE rfl rfl rfl ?_; clear hE a; intro a hE
  refine s_assign hE rfl rfl ?_; clear hE a; intro a hE
  refine q_nil ?_
  replace hE : Env a 49 [(0, _), (1, _), (4, _), (5, _), (8, _)] := hE.sel [0, 1, 4, 5, 8] rfl
  refine hK3 _ _ ?_
  replace hE := hE.cast 8 rfl (show _ = Value.bool false from (congrArg Value.bool (decide_eq_false (by omega))))
  refine wp_cond_false (hE.eval rfl) ?_
  refine wp_seq_k (fun K4 hK4 => ?_)
  refine wp_plain [true, true, true, true, true, true] rfl rfl ?_
  refine s_move hE rfl rfl ?_; clear hE a; intro a hE
  refine s_len hE rfl Try.underlying55 (rd_slice (hM.get 0 rfl)) rfl ?_; clear hE a; intro a hE
  refine s_move hE rfl rfl ?_; clear hE a; intro a hE
  refine s_bin hE rfl rfl (show Bin _ _ _ _ _ (.int .i64 ((n * 69 : Nat) : Int)) from bin_mul (by rw [wrap_i64 (by omega) (by omega)]; omega)) rfl ?_; clear hE a; intro a hE
  refine s_bin hE rfl rfl bin_neq rfl ?_; clear hE a; intro a hE
  refine s_assign hE rfl rfl ?_; clear hE a; intro a hE
  refine q_nil ?_
  replace hE : Env a 49 [(0, _), (1, _), (4, _), (5, _), (8, _), (15, _)] := hE.sel [0, 1, 4, 5, 8, 15] rfl
  refine hK4 _ _ ?_
  replace hE := hE.cast 15 rfl (show _ = Value.bool false from (congrArg Value.bool (by first | rfl | (rw [decide_eq_true (by omega)]; rfl))))
  refine wp_cond_false (hE.eval rfl) ?_
  refine wp_skip ?_
  refine q_block_n ?_
  refine hK2 _ _ ?_
  refine wp_seq_k (fun K5 hK5 => ?_)
  refine wp_plain [true, false, true] rfl rfl ?_
  refine s_move hE rfl rfl ?_; clear hE a; intro a hE
  refine s_call hE rfl Try.call48 (open_c bs _ _ _ (hM.get 0 rfl) (by first | omega | (simp; done) | (simp; omega))) rfl ?_
  rintro e w1 ⟨tb22, bb22, rfl, hbb22, hN⟩
  refine ⟨_, rfl, trivial, ?_⟩; clear hE a; intro a hE
  replace hM : Mem _ _ w1 [_, _] := hM.callN hN (fun e he x hx => by rw [List.mem_singleton.1 he] at hx; exact hbb22 x hx); clear hN
  refine s_assign hE rfl rfl ?_; clear hE a; intro a hE
  refine q_nil ?_
  replace hE : Env a 49 [(0, _), (1, _), (4, _), (5, _), (6, _), (8, _), (15, _)] := hE.sel [0, 1, 4, 5, 6, 8, 15] rfl
  refine hK5 _ _ ?_
  refine wp_seq_k (fun K6 hK6 => ?_)
  refine wp_plain [true] rfl rfl ?_
  refine s_assign hE rfl rfl ?_; clear hE a; intro a hE
  refine q_nil ?_
  refine hK6 _ _ ?_
  refine wp_seq_k (fun K7 hK7 => ?_)
  refine wp_label ?_
  refine hK7 _ _ ?_
  refine wp_seq_k (fun K8 hK8 => ?_)
  refine wp_block ?_
  replace hM := hM.addNil 66
  replace hM := hM.ownEq (m' := ([] : List Wr).length) (cs' := ([] : List Wr).flatMap wcl) rfl rfl
  replace hM := Mem.ownRowsEq (f := wcl) (ls := ([] : List Wr)) (ms := wAts bs 0) hM rfl
  replace hM : Mem _ _ w1 [_, _, _] := hM.pick [1, 0, 2] rfl
  replace hM := hM.tapEq (q := bs.drop (69 * 0)) (by simp)
  replace hM : Mem _ _ w1 [_, _, _] := hM.pick [1, 0, 2] rfl
  refine c_loop (fun (i : Nat) a w' => i ≤ n ∧ (wAts bs i).all mayW = true ∧ ∃ vl4, Env a 49 [(0, v), (1, .int .i64 ((n : Nat) : Int)), (4, vl4), (5, .int .i64 4), (6, .pointer (some ⟨tb22, 0, none⟩)), (8, .bool false), (15, .bool false)] ∧ Mem w [] w' [own vl4 66 ((wAts bs i).length) ((wAts bs i).flatMap wcl), tap tb22 bb22 (bs.drop (69 * i)) false 127, rd v 1 bs.length c (bv bs)]) (fun i => n - i) 0 ⟨Nat.zero_le _, rfl, _, hE.sel [0, 1, 4, 5, 6, 8, 15] rfl, hM⟩ ?_
  clear hE hM a; rintro i a w2 ⟨hi, hpre, vl4, hE, hM⟩
  refine wp_block ?_
  refine wp_block ?_
  refine wp_seq_k (fun K9 hK9 => ?_)
  refine wp_plain [true, false, true] rfl rfl ?_
  refine s_move hE rfl rfl ?_; clear hE a; intro a hE
  refine s_call hE rfl Try.call62 (tapEnd_c tb22 bb22 (bs.drop (69 * i)) false _ (hM.get 1 rfl)) rfl ?_
  rintro e w3 ⟨rfl, hN⟩
  refine ⟨_, rfl, trivial, ?_⟩; clear hE a; intro a hE
  replace hM : Mem _ _ w3 [_, _, _] := hM.call0 hN trivial; clear hN
  refine s_assign hE rfl rfl ?_; clear hE a; intro a hE
  refine q_nil ?_
  replace hE : Env a 49 [(0, _), (1, _), (4, _), (5, _), (6, _), (8, _), (15, _), (42, _)] := hE.sel [0, 1, 4, 5, 6, 8, 15, 42] rfl
  refine hK9 _ _ ?_
  refine hE.split 42 rfl (fun hb42 hE' => ?_) (fun hb42 hE' => ?_)
  · replace hE := hE'; clear hE'
    have hend := gw_end hb42
    obtain rfl : n = i := by omega
    exfalso; rw [hpre] at hall; cases hall
  · replace hE := hE'; clear hE'
    have hmore := gw_more hb42
    have hlt : i < n := by omega
    have hv1 := val1 (l := (bs.drop (69 * i)).take 1) (by simp; omega)
    have hv4 := val4 (l := (bs.drop (69 * i + 1)).take 4) (by simp; omega)
    refine wp_cond_false (hE.eval rfl) ?_
    refine wp_seq_k (fun K10 hK10 => ?_)
    refine wp_plain [true, false, true, true, false, true, true, false, false] rfl rfl ?_
    refine s_move hE rfl rfl ?_; clear hE a; intro a hE
    replace hM : Mem _ _ w3 [_, _, _] := hM.pick [1, 0, 2] rfl
    refine s_call hE rfl Try.call57 (tapNum_ok tb22 bb22 (bs.drop (69 * i)) 1 _ (hM.get 0 rfl) rfl (by have hl_ : (bs.drop (69 * i)).length = 69 * n - 69 * i := (by simp; omega); first | omega | (simp; done) | (simp; omega))) rfl ?_
    rintro e w4 ⟨rfl, hN⟩
    refine ⟨_, rfl, trivial, ?_⟩; clear hE a; intro a hE
    replace hM : Mem _ _ w4 [_, _, _] := hM.call1 hN (fun f hf x hx => by rw [List.mem_singleton.1 hf] at hx; exact .inl hx); clear hN
    replace hM := hM.tapEq (q := bs.drop (69 * i + 1)) (by first | (rw [List.drop_drop]; done) | (rw [List.drop_drop]; congr 1; omega))
    refine s_conv hE rfl (cnv_int Try.underlying24 Try.underlying3 (wrap_i64 (by omega) (by omega))) rfl ?_; clear hE a; intro a hE
    refine s_move hE rfl rfl ?_; clear hE a; intro a hE
    refine s_call hE rfl Try.call57 (tapNum_ok tb22 bb22 (bs.drop (69 * i + 1)) 4 _ (hM.get 0 rfl) rfl (by have hl_ : (bs.drop (69 * i + 1)).length = bs.length - (69 * i + 1) := (by simp; try omega); first | omega | (simp; done) | (simp; omega))) rfl ?_
    rintro e w5 ⟨rfl, hN⟩
    refine ⟨_, rfl, trivial, ?_⟩; clear hE a; intro a hE
    replace hM : Mem _ _ w5 [_, _, _] := hM.call1 hN (fun f hf x hx => by rw [List.mem_singleton.1 hf] at hx; exact .inl hx); clear hN
    replace hM := hM.tapEq (q := bs.drop (69 * i + 5)) (by first | (rw [List.drop_drop]; done) | (rw [List.drop_drop]; congr 1; omega))
    refine s_conv hE rfl (cnv_int Try.underlying24 Try.underlying3 (wrap_i64 (by omega) (by omega))) rfl ?_; clear hE a; intro a hE
    refine s_buildS [[.int .i64 ((val ((bs.drop (69 * i)).take 1) : Nat) : Int)], [.int .i64 ((val ((bs.drop (69 * i + 1)).take 4) : Nat) : Int)]] hE rfl zero84 rfl fpl84 (by simp [PartsOk, Value.cells, *]) rfl ?_; clear hE a; intro a hE
    replace hE := hE.cast 29 rfl (show _ = Value.agg ([[.int .i64 ((val ((bs.drop (69 * i)).take 1) : Nat) : Int)], [.int .i64 ((val ((bs.drop (69 * i + 1)).take 4) : Nat) : Int)], bv (List.replicate 64 (0 : UInt8))] : List (List Value)).flatten.toArray from (by first | rfl | simp [setAll]))
    refine s_alloc [1, 1, 64] hE hM zero84 rfl rfl ?_; clear hE a; intro a b7 w6 hE hM'
    clear hM; have hM := hM'; clear hM'
    refine s_storeSegs 0 3 (vss := [[.int .i64 ((val ((bs.drop (69 * i)).take 1) : Nat) : Int)], [.int .i64 ((val ((bs.drop (69 * i + 1)).take 4) : Nat) : Int)], bv (List.replicate 64 (0 : UInt8))]) hE rfl rfl hM rfl sz84 (by have hl_s2 : (List.replicate 64 (0 : UInt8)).length = 64 := (by first | (simp; done) | (simp [*]; done) | (simp; omega));  simp only [List.map_cons, List.map_nil, bv_length, List.length_cons, List.length_nil, List.take_succ_cons, List.take_zero, List.drop_zero, List.drop_succ_cons, hl_s2]) (by decide) rfl (one_fl ⟨one1 rfl, one1 rfl, bv_one _, trivial⟩) rfl (by intro X h; cases h) ?_; intro w7 hM'; clear hM; have hM := hM'; clear hM'
    simp only [List.take_zero, List.take_succ_cons, List.drop_zero, List.drop_succ_cons, List.take_nil, List.drop_nil, List.nil_append, List.append_nil, List.cons_append] at hM
    refine q_nil ?_
    replace hE : Env a 49 [(0, _), (1, _), (4, _), (5, _), (6, _), (7, _), (8, _), (15, _), (42, _)] := hE.sel [0, 1, 4, 5, 6, 7, 8, 15, 42] rfl
    refine hK10 _ _ ?_
    refine wp_seq_k (fun K11 hK11 => ?_)
    refine wp_treeM hM (by kernel_rfl) (fun _ => True) (fun _ => True) (.re [(0, true), (1, true), (2, true), (3, false), (4, false)] (.fl 3 (.fl 0 (.weak (.or 3 (.cut (.re [(4, false)] (.fl 0 (.fl 0 (.weak (.or 4 (.cut (.re [] (.weak (.leaf 0)))) (.stop))))))) (.stop)))))) [(0, true), (1, true), (2, true), (3, false), (4, false)] [(0, [(1, 0), (4, 1)]), (1, [(4, 1)]), (3, [(4, 3)]), (4, [])] (by kernel_rfl) ?_
    intro w8 hM' hww8; clear hM; have hM := hM'; clear hM'
    refine o_re ?_
    refine o_fl rfl ?_
    refine s_fieldAddr hE rfl fo84_2 rfl ?_; clear hE a; intro a hE
    refine s_sliceArr (l := 0) (h := 64) (mx' := 64) hE rfl arr59 rfl rfl rfl (by simp) (by omega) (by omega) (by omega) rfl ?_; clear hE a; intro a hE
    replace hE := hE.cast 31 rfl (show _ = Value.slice (some ⟨b7, 2, none⟩) 64 64 from rfl)
    refine s_move hE rfl rfl ?_; clear hE a; intro a hE
    refine q_nil (q_nx ?_)
    refine o_fl rfl ?_
    refine q_nil (q_nx ?_)
    refine o_weak (fun b => b ∈ [tb22]) (fun _ _ => trivial) ?_
    refine o_or rfl ?_ ?_
    · replace hM : Mem _ _ w8 [_, _, _, _] := hM.pick [1, 0, 2, 3] rfl
      have hlt33_1 : ((bs.drop (69 * i + 5)).take 64).length = 64 := (by have hl_q : (bs.drop (69 * i + 5)).length = bs.length - (69 * i + 5) := (by simp; try omega); simp; try omega)
      refine s_call hE rfl Try.call56 (tapBytes_ok tb22 bb22 (bs.drop (69 * i + 5)) 64 _ (hM.get 0 rfl) (by have hl_ : (bs.drop (69 * i + 5)).length = bs.length - (69 * i + 5) := (by simp; try omega); first | omega | (simp; done) | (simp; omega))) rfl ?_
      rintro e w9 ⟨v33, rfl, hvt33_1, hN⟩
      refine ⟨_, rfl, hN.sta, ?_⟩; clear hE a; intro a hE
      replace hM : Mem _ _ w9 [_, _, _, _, _] := hM.call1 hN (fun f hf x hx => (List.mem_cons.1 hf).elim (fun h => by subst h; exact .inl (hvt33_1 x (by first | exact hx | (rw [hlt33_1] at hx; exact hx)))) (fun h => by rw [List.mem_singleton.1 h] at hx; exact .inl hx)); clear hN
      replace hM : Mem _ _ w9 [_, _, _, _, _] := hM.pick [1, 0, 2, 3, 4] rfl
      replace hM := hM.tapEq (q := bs.drop (69 * i + 69)) (by first | (rw [List.drop_drop]; done) | (rw [List.drop_drop]; congr 1; omega))
      refine q_nil (q_nx ?_)
      refine o_cut (fun _ => True) ?_
      refine o_re ?_
      refine o_fl rfl ?_
      refine q_nil (q_nx ?_)
      refine o_fl rfl ?_
      refine q_nil (q_nx ?_)
      refine o_weak (fun b => b = b7) (fun _ _ => trivial) ?_
      refine o_or rfl ?_ ?_
      · replace hM : Mem _ _ w9 [_, _, _, _, _] := hM.pick [2, 0, 1, 3, 4] rfl
        refine s_copySeg 2 hE rfl rfl hM (hM.get 2 rfl) hlt33_1 (bv_one _) sl55 rfl ((bv_length _).trans (by first | (simp; done) | (simp [*]; done) | (simp; omega))) rfl (by intro X h; cases h; rfl) rfl ?_; clear hE a; intro a w10 hE hM'; clear hM; have hM := hM'; clear hM'
        simp only [List.set_cons_zero, List.set_cons_succ] at hM
        refine q_nil (q_nx ?_)
        refine o_cut (fun _ => True) ?_
        refine o_re ?_
        refine o_weak (fun _ => False) (fun _ _ => trivial) ?_
        refine o_leaf rfl rfl ?_
        refine q_nil (q_ph (q_nil ?_))
        replace hE : Env a 49 [(0, _), (1, _), (4, _), (5, _), (6, _), (7, _), (8, _), (15, _), (42, _)] := hE.sel [0, 1, 4, 5, 6, 7, 8, 15, 42] rfl
        refine hK11 _ _ ?_
        refine wp_seq_k (fun K12 hK12 => ?_)
        refine wp_seq_k (fun K13 hK13 => ?_)
        refine wp_plain [true, false, true] rfl rfl ?_
        refine s_loadN hE rfl (hM.get 0 rfl) row84 rfl (by intro X h; cases h) rfl ?_; clear hE a; intro a hE
        replace hE := hE.cast 35 rfl (show _ = Value.agg ([[.int .i64 ((val ((bs.drop (69 * i)).take 1) : Nat) : Int)], [.int .i64 ((val ((bs.drop (69 * i + 1)).take 4) : Nat) : Int)], bv ((bs.drop (69 * i + 5)).take 64)] : List (List Value)).flatten.toArray from (by first | rfl | simp))
        refine s_call hE rfl Try.call60 (may_c ((val ((bs.drop (69 * i)).take 1) : Nat) : Int) ((val ((bs.drop (69 * i + 1)).take 4) : Nat) : Int) ((bs.drop (69 * i + 5)).take 64) _ hlt33_1) rfl ?_
        rintro e w11 ⟨rfl, hN⟩
        refine ⟨_, rfl, trivial, ?_⟩; clear hE a; intro a hE
        replace hM : Mem _ _ w11 [_, _, _, _, _] := hM.call0 hN trivial; clear hN
        refine s_not hE rfl rfl ?_; clear hE a; intro a hE
        refine q_nil ?_
        replace hE : Env a 49 [(0, _), (1, _), (4, _), (5, _), (6, _), (7, _), (8, _), (15, _), (37, _), (42, _)] := hE.sel [0, 1, 4, 5, 6, 7, 8, 15, 37, 42] rfl
        refine hK13 _ _ ?_
        refine hE.split 37 rfl (fun hb37 hE' => ?_) (fun hb37 hE' => ?_)
        · replace hE := hE'; clear hE'
          replace hb37 := not_true hb37
          refine wp_cond_true (hE.eval rfl) ?_
          refine wp_exit ?_
          refine q_then_e ?_
          refine q_block_o rfl ?_
          refine q_block_o rfl ?_
          refine q_then_e ?_
          refine q_block_x ?_
          refine hK8 _ _ ?_
          refine wp_seq_k (fun K14 hK14 => ?_)
          refine wp_seq_k (fun K15 hK15 => ?_)
          refine wp_plain [true, true] rfl rfl ?_
          refine s_move hE rfl rfl ?_; clear hE a; intro a hE
          refine s_bin hE rfl rfl bin_neq rfl ?_; clear hE a; intro a hE
          replace hE := hE.cast 46 rfl (show _ = Value.bool true from (congrArg Value.bool (by decide)))
          refine q_nil ?_
          replace hE : Env a 49 [(0, _), (1, _), (4, _), (5, _), (6, _), (7, _), (8, _), (15, _), (37, _), (42, _), (46, _)] := hE.sel [0, 1, 4, 5, 6, 7, 8, 15, 37, 42, 46] rfl
          refine hK15 _ _ ?_
          refine wp_cond_true (hE.eval rfl) ?_
          refine wp_plain [true] rfl rfl ?_
          refine s_assign hE rfl rfl ?_; clear hE a; intro a hE
          refine q_nil ?_
          refine hK14 _ _ ?_
          refine wp_seq_k (fun K16 hK16 => ?_)
          refine wp_plain [true, true, true, true] rfl rfl ?_
          refine s_move hE rfl rfl ?_; clear hE a; intro a hE
          refine s_move hE rfl rfl ?_; clear hE a; intro a hE
          refine s_assign hE rfl rfl ?_; clear hE a; intro a hE
          refine s_assign hE rfl rfl ?_; clear hE a; intro a hE
          refine q_nil ?_
          replace hE : Env a 49 [(0, _), (1, _), (4, _), (5, _), (6, _), (7, _), (8, _), (15, _), (37, _), (42, _), (46, _)] := hE.sel [0, 1, 4, 5, 6, 7, 8, 15, 37, 42, 46] rfl
          refine hK16 _ _ ?_
          refine wp_ret ?_
          refine q_ng_r ?_
          refine f_ret2 hE rfl rfl rfl ?_
          replace hM := hM.addNil 66
          replace hM := hM.ownEq (m' := ([] : List Wr).length) (cs' := ([] : List Wr).flatMap wcl) rfl rfl
          exact ⟨_, (by first | rfl | (simp; done)), hM.pick [0] rfl⟩
        · replace hE := hE'; clear hE'
          replace hb37 := not_false' hb37
          have hst := gw_step hpre hb37
          refine wp_cond_false (hE.eval rfl) ?_
          refine wp_skip ?_
          refine hK12 _ _ ?_
          refine wp_plain [true, true, false, false, true] rfl rfl ?_
          refine s_move hE rfl rfl ?_; clear hE a; intro a hE
          refine s_loadN hE rfl (hM.get 0 rfl) row84 rfl (by intro X h; cases h) rfl ?_; clear hE a; intro a hE
          replace hE := hE.cast 39 rfl (show _ = Value.agg ([[.int .i64 ((val ((bs.drop (69 * i)).take 1) : Nat) : Int)], [.int .i64 ((val ((bs.drop (69 * i + 1)).take 4) : Nat) : Int)], bv ((bs.drop (69 * i + 5)).take 64)] : List (List Value)).flatten.toArray from (by first | rfl | simp))
          have hro40_0 : OkWr (((val ((bs.drop (69 * i)).take 1) : Nat) : Int), ((val ((bs.drop (69 * i + 1)).take 4) : Nat) : Int), (bs.drop (69 * i + 5)).take 64) := ⟨hlt33_1, by unfold In64; simp only; omega, by unfold In64; simp only; omega⟩
          refine s_buildSlice (xs := [.tmp 39]) (([(((val ((bs.drop (69 * i)).take 1) : Nat) : Int), ((val ((bs.drop (69 * i + 1)).take 4) : Nat) : Int), (bs.drop (69 * i + 5)).take 64)] : List Wr).flatMap wcl) hE hM sl77 rfl rfl rfl (by intro v hv; simp only [List.mem_cons, List.not_mem_nil, or_false] at hv; rcases hv with rfl; exact wcl_len hro40_0.1) (by simp [Value.cells, wcl]) rfl rfl rfl ?_; clear hE a; intro a v40 w12 hE hM'
          clear hM; have hM := hM'; clear hM'
          replace hM := hM.ownEq (m' := ([(((val ((bs.drop (69 * i)).take 1) : Nat) : Int), ((val ((bs.drop (69 * i + 1)).take 4) : Nat) : Int), (bs.drop (69 * i + 5)).take 64)] : List Wr).length) (cs' := ([(((val ((bs.drop (69 * i)).take 1) : Nat) : Int), ((val ((bs.drop (69 * i + 1)).take 4) : Nat) : Int), (bs.drop (69 * i + 5)).take 64)] : List Wr).flatMap wcl) rfl rfl
          replace hM : Mem _ _ w12 [_, _, _, _, _, _] := hM.pick [4, 0, 1, 2, 3, 5] rfl
          obtain ⟨cq1, hq1⟩ := own_rd (hM.get 1 rfl)
          refine s_append hE rfl rfl hM sl77 (Src.rd Try.underlying77 hq1 (wcls_one _)) (len47 (by first | omega | (simp; omega))) (by first | omega | (simp; omega)) (by intro X h; cases h) rfl ?_; clear hE a; intro a v41 w13 hE hM'; clear hM; have hM := hM'; clear hM'
          replace hM := Mem.ownRowsL (f := wcl) (ls := wAts bs i) (ms := ([(((val ((bs.drop (69 * i)).take 1) : Nat) : Int), ((val ((bs.drop (69 * i + 1)).take 4) : Nat) : Int), (bs.drop (69 * i + 5)).take 64)] : List Wr)) hM rfl rfl
          replace hM : Mem _ _ w13 [_, _, _, _, _] := hM.pick [0, 2, 3, 4, 5] rfl
          refine s_assign hE rfl rfl ?_; clear hE a; intro a hE
          refine q_nil ?_
          replace hE : Env a 49 [(0, _), (1, _), (4, _), (5, _), (6, _), (7, _), (8, _), (15, _), (37, _), (42, _)] := hE.sel [0, 1, 4, 5, 6, 7, 8, 15, 37, 42] rfl
          refine q_block_n ?_
          refine q_block_n ?_
          replace hM := Mem.ownRowsEq (f := wcl) (ls := (wAts bs i) ++ ([(((val ((bs.drop (69 * i)).take 1) : Nat) : Int), ((val ((bs.drop (69 * i + 1)).take 4) : Nat) : Int), (bs.drop (69 * i + 5)).take 64)] : List Wr)) (ms := wAts bs (i + 1)) hM ((wAts_succ _ _).symm)
          replace hM : Mem _ _ w13 [_, _, _, _, _] := hM.pick [2, 0, 1, 3, 4] rfl
          replace hM := hM.tapEq (q := bs.drop (69 * (i + 1))) (by first | rfl | (congr 1; done) | (congr 1; omega))
          replace hM : Mem _ _ w13 [_, _, _] := hM.pick [0, 1, 4] rfl
          replace hM : Mem _ _ w13 [_, _, _] := hM.pick [1, 0, 2] rfl
          exact ⟨i + 1, ⟨by omega, hst, _, hE.sel [0, 1, 4, 5, 6, 8, 15] rfl, hM⟩, by omega⟩
      trivial
    trivial
theorem rgw_lim (v : Value) (bs : List UInt8) (c : Nat) (z : Int) (w : World) (hr_bs : (rd v 1 bs.length c (bv bs)).holds w) (hz : z < 0 ∨ 65536 < z) : Calls Try.prog 35 #[v, .int .i64 z] w fun e w' => ∃ v'0, e = .returned (.tuple #[v'0, .int .i64 2]) ∧ Mem w [] w' [own v'0 66 (([] : List Wr).length) (([] : List Wr).flatMap wcl)] := by
  have hM : Mem w [] w [rd v 1 bs.length c (bv bs)] := Mem.startR w (fun g hg => by
    simp only [List.mem_cons, List.not_mem_nil, or_false] at hg
    rcases hg with rfl
    · exact ⟨hr_bs, rfl⟩)
  refine f_enter 63 Try.func35 rfl rfl rfl ?_
  intro a hE
  replace hE : Env a 63 [(0, _), (1, _)] := hE
  refine wp_seq_k (fun K1 hK1 => ?_)
  refine wp_plain [true, true] rfl rfl ?_
  refine s_assign hE rfl rfl ?_; clear hE a; intro a hE
  refine s_assign hE rfl rfl ?_; clear hE a; intro a hE
  refine q_nil ?_
  refine hK1 _ _ ?_
  refine wp_seq_k (fun K2 hK2 => ?_)
  refine wp_seq_k (fun K3 hK3 => ?_)
  refine wp_plain [true, true, true, true, true, true] rfl rfl ?_
  refine s_move hE rfl rfl ?_; clear hE a; intro a hE
  refine s_bin hE rfl rfl bin_lss rfl ?_; clear hE a; intro a hE
  refine s_move hE rfl rfl ?_; clear hE a; intro a hE
  refine hE.split 13 rfl (fun hb13 hE' => ?_) (fun hb13 hE' => ?_)
  · replace hE := hE'; clear hE'
    replace hb13 := of_decide_eq_true hb13
    refine g_no (b := true) hE rfl rfl rfl ?_; clear hE a; intro a hE
    refine g_no (b := true) hE rfl rfl rfl ?_; clear hE a; intro a hE
    refine s_pickt hE rfl rfl rfl ?_; clear hE a; intro a hE
    refine q_nil ?_
    replace hE : Env a 63 [(0, _), (1, _), (4, _), (5, _), (16, _)] := hE.sel [0, 1, 4, 5, 16] rfl
    refine hK3 _ _ ?_
    refine wp_cond_true (hE.eval rfl) ?_
    refine wp_seq_k (fun K4 hK4 => ?_)
    refine wp_plain [true, true] rfl rfl ?_
    refine s_assign hE rfl rfl ?_; clear hE a; intro a hE
    refine s_assign hE rfl rfl ?_; clear hE a; intro a hE
    refine q_nil ?_
    refine hK4 _ _ ?_
    refine wp_ret ?_
    refine q_then_r ?_
    refine f_ret2 hE rfl rfl rfl ?_
    replace hM := hM.addNil 66
    replace hM := hM.ownEq (m' := ([] : List Wr).length) (cs' := ([] : List Wr).flatMap wcl) rfl rfl
    exact ⟨_, (by first | rfl | (simp; done)), hM.pick [0] rfl⟩
  · replace hE := hE'; clear hE'
    replace hb13 := of_decide_eq_false hb13
    refine g_yes hE rfl rfl ?_
    refine s_move hE rfl rfl ?_; clear hE a; intro a hE
    refine g_yes hE rfl rfl ?_
    refine s_bin hE rfl rfl bin_gtr rfl ?_; clear hE a; intro a hE
    refine s_pickf hE rfl rfl rfl ?_; clear hE a; intro a hE
    refine q_nil ?_
    replace hE : Env a 63 [(0, _), (1, _), (4, _), (5, _), (16, _)] := hE.sel [0, 1, 4, 5, 16] rfl
    refine hK3 _ _ ?_
    replace hE := hE.cast 16 rfl (show _ = Value.bool true from (congrArg Value.bool (decide_eq_true (by omega))))
    refine wp_cond_true (hE.eval rfl) ?_
    refine wp_seq_k (fun K4 hK4 => ?_)
    refine wp_plain [true, true] rfl rfl ?_
    refine s_assign hE rfl rfl ?_; clear hE a; intro a hE
    refine s_assign hE rfl rfl ?_; clear hE a; intro a hE
    refine q_nil ?_
    refine hK4 _ _ ?_
    refine wp_ret ?_
    refine q_then_r ?_
    refine f_ret2 hE rfl rfl rfl ?_
    replace hM := hM.addNil 66
    replace hM := hM.ownEq (m' := ([] : List Wr).length) (cs' := ([] : List Wr).flatMap wcl) rfl rfl
    exact ⟨_, (by first | rfl | (simp; done)), hM.pick [0] rfl⟩
theorem rgw_len (v : Value) (bs : List UInt8) (c : Nat) (n : Nat) (w : World) (hr_bs : (rd v 1 bs.length c (bv bs)).holds w) (hn : n ≤ 65536) (hlen : bs.length ≠ 69 * n) : Calls Try.prog 35 #[v, .int .i64 (n : Int)] w fun e w' => ∃ v'0, e = .returned (.tuple #[v'0, .int .i64 4]) ∧ Mem w [] w' [own v'0 66 (([] : List Wr).length) (([] : List Wr).flatMap wcl)] := by
  have hM : Mem w [] w [rd v 1 bs.length c (bv bs)] := Mem.startR w (fun g hg => by
    simp only [List.mem_cons, List.not_mem_nil, or_false] at hg
    rcases hg with rfl
    · exact ⟨hr_bs, rfl⟩)
  refine f_enter 63 Try.func35 rfl rfl rfl ?_
  intro a hE
  replace hE : Env a 63 [(0, _), (1, _)] := hE
  refine wp_seq_k (fun K1 hK1 => ?_)
  refine wp_plain [true, true] rfl rfl ?_
  refine s_assign hE rfl rfl ?_; clear hE a; intro a hE
  refine s_assign hE rfl rfl ?_; clear hE a; intro a hE
  refine q_nil ?_
  refine hK1 _ _ ?_
  refine wp_seq_k (fun K2 hK2 => ?_)
  refine wp_seq_k (fun K3 hK3 => ?_)
  refine wp_plain [true, true, true, true, true, true] rfl rfl ?_
  refine s_move hE rfl rfl ?_; clear hE a; intro a hE
  refine s_bin hE rfl rfl bin_lss rfl ?_; clear hE a; intro a hE
  refine s_move hE rfl rfl ?_; clear hE a; intro a hE
  replace hE := hE.cast 13 rfl (show _ = Value.bool false from (congrArg Value.bool (decide_eq_false (by omega))))
  refine g_yes hE rfl rfl ?_
  refine s_move hE rfl rfl ?_; clear hE a; intro a hE
  refine g_yes hE rfl rfl ?_
  refine s_bin hE rfl rfl bin_gtr rfl ?_; clear hE a; intro a hE
  refine s_pickf hE rfl rfl rfl ?_; clear hE a; intro a hE
  refine q_nil ?_
  replace hE : Env a 63 [(0, _), (1, _), (4, _), (5, _), (16, _)] := hE.sel [0, 1, 4, 5, 16] rfl
  refine hK3 _ _ ?_
  replace hE := hE.cast 16 rfl (show _ = Value.bool false from (congrArg Value.bool (decide_eq_false (by omega))))
  refine wp_cond_false (hE.eval rfl) ?_
  refine wp_skip ?_
  refine hK2 _ _ ?_
  refine wp_seq_k (fun K4 hK4 => ?_)
  refine wp_seq_k (fun K5 hK5 => ?_)
  refine wp_plain [true, true, true, true, true] rfl rfl ?_
  refine s_move hE rfl rfl ?_; clear hE a; intro a hE
  refine s_len hE rfl Try.underlying55 (rd_slice (hM.get 0 rfl)) rfl ?_; clear hE a; intro a hE
  refine s_move hE rfl rfl ?_; clear hE a; intro a hE
  refine s_bin hE rfl rfl (show Bin _ _ _ _ _ (.int .i64 ((69 * n : Nat) : Int)) from bin_mul (by rw [wrap_i64 (by omega) (by omega)]; omega)) rfl ?_; clear hE a; intro a hE
  refine s_bin hE rfl rfl bin_neq rfl ?_; clear hE a; intro a hE
  refine q_nil ?_
  replace hE : Env a 63 [(0, _), (1, _), (4, _), (5, _), (16, _), (21, _)] := hE.sel [0, 1, 4, 5, 16, 21] rfl
  refine hK5 _ _ ?_
  replace hE := hE.cast 21 rfl (show _ = Value.bool true from (congrArg Value.bool (by first | rfl | (rw [decide_eq_false (by omega)]; rfl))))
  refine wp_cond_true (hE.eval rfl) ?_
  refine wp_seq_k (fun K6 hK6 => ?_)
  refine wp_plain [true, true] rfl rfl ?_
  refine s_assign hE rfl rfl ?_; clear hE a; intro a hE
  refine s_assign hE rfl rfl ?_; clear hE a; intro a hE
  refine q_nil ?_
  refine hK6 _ _ ?_
  refine wp_ret ?_
  refine q_then_r ?_
  refine f_ret2 hE rfl rfl rfl ?_
  replace hM := hM.addNil 66
  replace hM := hM.ownEq (m' := ([] : List Wr).length) (cs' := ([] : List Wr).flatMap wcl) rfl rfl
  exact ⟨_, (by first | rfl | (simp; done)), hM.pick [0] rfl⟩
theorem rgw_ok (v : Value) (bs : List UInt8) (c : Nat) (n : Nat) (w : World) (hr_bs : (rd v 1 bs.length c (bv bs)).holds w) (hn : n ≤ 65536) (hlen : bs.length = 69 * n) (hall : (wAts bs n).all mayW = true) : Calls Try.prog 35 #[v, .int .i64 (n : Int)] w fun e w' => ∃ v'0, e = .returned (.tuple #[v'0, .int .i64 0]) ∧ Mem w [] w' [own v'0 66 ((wAts bs n).length) ((wAts bs n).flatMap wcl)] := by
  have hM : Mem w [] w [rd v 1 bs.length c (bv bs)] := Mem.startR w (fun g hg => by
    simp only [List.mem_cons, List.not_mem_nil, or_false] at hg
    rcases hg with rfl
    · exact ⟨hr_bs, rfl⟩)
  refine f_enter 63 Try.func35 rfl rfl rfl ?_
  intro a hE
  replace hE : Env a 63 [(0, _), (1, _)] := hE
  refine wp_seq_k (fun K1 hK1 => ?_)
  refine wp_plain [true, true] rfl rfl ?_
  refine s_assign hE rfl rfl ?_; clear hE a; intro a hE
  refine s_assign hE rfl rfl ?_; clear hE a; intro a hE
  refine q_nil ?_
  refine hK1 _ _ ?_
  refine wp_seq_k (fun K2 hK2 => ?_)
  refine wp_seq_k (fun K3 hK3 => ?_)
  refine wp_plain [true, true, true, true, true, true] rfl rfl ?_
  refine s_move hE rfl rfl ?_; clear hE a; intro a hE
  refine s_bin hE rfl rfl bin_lss rfl ?_; clear hE a; intro a hE
  refine s_move hE rfl rfl ?_; clear hE a; intro a hE
  replace hE := hE.cast 13 rfl (show _ = Value.bool false from (congrArg Value.bool (decide_eq_false (by omega))))
  refine g_yes hE rfl rfl ?_
  refine s_move hE rfl rfl ?_; clear hE a; intro a hE
  refine g_yes hE rfl rfl ?_
  refine s_bin hE rfl rfl bin_gtr rfl ?_; clear hE a; intro a hE
  refine s_pickf hE rfl rfl rfl ?_; clear hE a; intro a hE
  refine q_nil ?_
  replace hE : Env a 63 [(0, _), (1, _), (4, _), (5, _), (16, _)] := hE.sel [0, 1, 4, 5, 16] rfl
  refine hK3 _ _ ?_
  replace hE := hE.cast 16 rfl (show _ = Value.bool false from (congrArg Value.bool (decide_eq_false (by omega))))
  refine wp_cond_false (hE.eval rfl) ?_
  refine wp_skip ?_
  refine hK2 _ _ ?_
  refine wp_seq_k (fun K4 hK4 => ?_)
  refine wp_seq_k (fun K5 hK5 => ?_)
  refine wp_plain [true, true, true, true, true] rfl rfl ?_
  refine s_move hE rfl rfl ?_; clear hE a; intro a hE
  refine s_len hE rfl Try.underlying55 (rd_slice (hM.get 0 rfl)) rfl ?_; clear hE a; intro a hE
  refine s_move hE rfl rfl ?_; clear hE a; intro a hE
  refine s_bin hE rfl rfl (show Bin _ _ _ _ _ (.int .i64 ((69 * n : Nat) : Int)) from bin_mul (by rw [wrap_i64 (by omega) (by omega)]; omega)) rfl ?_; clear hE a; intro a hE
  refine s_bin hE rfl rfl bin_neq rfl ?_; clear hE a; intro a hE
  refine q_nil ?_
  replace hE : Env a 63 [(0, _), (1, _), (4, _), (5, _), (16, _), (21, _)] := hE.sel [0, 1, 4, 5, 16, 21] rfl
  refine hK5 _ _ ?_
  replace hE := hE.cast 21 rfl (show _ = Value.bool false from (congrArg Value.bool (by first | rfl | (rw [decide_eq_true (by omega)]; rfl))))
  refine wp_cond_false (hE.eval rfl) ?_
  refine wp_skip ?_
  refine hK4 _ _ ?_
  refine wp_seq_k (fun K6 hK6 => ?_)
  refine wp_plain [true] rfl rfl ?_
  refine s_assign hE rfl rfl ?_; clear hE a; intro a hE
  refine q_nil ?_
  refine hK6 _ _ ?_
  refine wp_seq_k (fun K7 hK7 => ?_)
  refine wp_seq_k (fun K8 hK8 => ?_)
  refine wp_plain [true] rfl rfl ?_
  refine s_assign hE rfl rfl ?_; clear hE a; intro a hE
  refine q_nil ?_
  refine hK8 _ _ ?_
  refine wp_block ?_
  replace hM := hM.addNil 66
  replace hM := hM.ownEq (m' := ([] : List Wr).length) (cs' := ([] : List Wr).flatMap wcl) rfl rfl
  replace hM := Mem.ownRowsEq (f := wcl) (ls := ([] : List Wr)) (ms := wAts bs 0) hM rfl
  refine c_loop (fun (i : Nat) a w' => i ≤ n ∧ ∃ vl6, Env a 63 [(0, v), (1, .int .i64 ((n : Nat) : Int)), (4, .slice none 0 0), (5, .int .i64 0), (6, vl6), (7, .int .i64 ((i : Nat) : Int)), (16, .bool false), (21, .bool false)] ∧ Mem w [] w' [own vl6 66 ((wAts bs i).length) ((wAts bs i).flatMap wcl), rd v 1 bs.length c (bv bs)]) (fun i => n - i) 0 ⟨Nat.zero_le _, _, hE.sel [0, 1, 4, 5, 6, 7, 16, 21] rfl, hM⟩ ?_
  clear hE hM a; rintro i a w1 ⟨hi, vl6, hE, hM⟩
  refine wp_seq_k (fun K9 hK9 => ?_)
  refine wp_seq_k (fun K10 hK10 => ?_)
  refine wp_plain [true, true, true] rfl rfl ?_
  refine s_move hE rfl rfl ?_; clear hE a; intro a hE
  refine s_move hE rfl rfl ?_; clear hE a; intro a hE
  refine s_bin hE rfl rfl bin_lss rfl ?_; clear hE a; intro a hE
  refine q_nil ?_
  replace hE : Env a 63 [(0, _), (1, _), (4, _), (5, _), (6, _), (7, _), (16, _), (21, _), (24, _)] := hE.sel [0, 1, 4, 5, 6, 7, 16, 21, 24] rfl
  refine hK10 _ _ ?_
  refine hE.split 24 rfl (fun hb24 hE' => ?_) (fun hb24 hE' => ?_)
  · replace hE := hE'; clear hE'
    replace hb24 := of_decide_eq_true hb24
    replace hb24 : i < n := by omega
    replace hb24 : i < n := by omega
    have hv1 := val1 (l := (bs.drop (69 * i)).take 1) (by simp; omega)
    have hv4 := val4 (l := (bs.drop (69 * i + 1)).take 4) (by simp; omega)
    have hv4r := val4 (l := (((bs.drop (69 * i)).take 69).drop 1).take 4) (by simp; omega)
    refine wp_cond_true (hE.eval rfl) ?_
    refine wp_skip ?_
    refine hK9 _ _ ?_
    refine wp_seq_k (fun K11 hK11 => ?_)
    refine wp_block ?_
    refine wp_seq_k (fun K12 hK12 => ?_)
    refine wp_plain [true, true, true, true, true, true, true, true] rfl rfl ?_
    refine s_move hE rfl rfl ?_; clear hE a; intro a hE
    refine s_move hE rfl rfl ?_; clear hE a; intro a hE
    refine s_bin hE rfl rfl (show Bin _ _ _ _ _ (.int .i64 ((69 * i : Nat) : Int)) from bin_mul (by rw [wrap_i64 (by omega) (by omega)]; omega)) rfl ?_; clear hE a; intro a hE
    refine s_move hE rfl rfl ?_; clear hE a; intro a hE
    refine s_bin hE rfl rfl (show Bin _ _ _ _ _ (.int .i64 ((69 * i : Nat) : Int)) from bin_mul (by rw [wrap_i64 (by omega) (by omega)]; omega)) rfl ?_; clear hE a; intro a hE
    refine s_bin hE rfl rfl (show Bin _ _ _ _ _ (.int .i64 (((69 * i) + 69 : Nat) : Int)) from bin_add (by rw [wrap_i64 (by omega) (by omega)]; omega)) rfl ?_; clear hE a; intro a hE
    have hcap33 := rd_len (hM.get 1 rfl)
    refine s_slice (l := 69 * i) (h := (69 * i) + 69) (mx' := c) hE rfl (hM.get 1 rfl) slt55 ⟨_, rfl⟩ ⟨_, rfl⟩ rfl (by simp) (by first | omega | assumption | (simp; done) | (simp; omega) | decide) (by first | omega | assumption | (simp; done) | (simp; omega) | decide) (by first | omega | assumption | (simp; done) | (simp; omega) | decide) (by first | omega | assumption | (simp; done) | (simp; omega) | decide) rfl ?_; clear hE a; intro a v33 hE hr33 hvb33
    replace hr33 : (rd v33 1 ((bs.drop (69 * i)).take 69).length (c - 69 * i) (bv ((bs.drop (69 * i)).take 69))).holds _ := rd_midN hr33 (by first | omega | assumption | (simp; done) | (simp; omega) | decide) (by omega)
    replace hM := hM.addPart 1 rfl hr33 hvb33; clear hr33
    refine s_assign hE rfl rfl ?_; clear hE a; intro a hE
    refine q_nil ?_
    replace hE : Env a 63 [(0, _), (1, _), (4, _), (5, _), (6, _), (7, _), (8, _), (16, _), (21, _), (24, _)] := hE.sel [0, 1, 4, 5, 6, 7, 8, 16, 21, 24] rfl
    refine hK12 _ _ ?_
    refine wp_seq_k (fun K13 hK13 => ?_)
    refine wp_treeM hM (by kernel_rfl) (fun _ => True) (fun _ => True) (.re [(0, true), (1, true), (4, true), (5, true), (2, true), (3, true), (6, false), (7, true), (8, true), (9, false), (10, false)] (.fl 4 (.weak (.fl 2 (.or 6 (.re [(7, true), (8, true), (9, false), (10, false)] (.fl 2 (.fl 0 (.or 9 (.cut (.re [(10, false)] (.fl 0 (.fl 0 (.weak (.or 10 (.cut (.re [] (.weak (.leaf 0)))) (.stop))))))) (.stop))))) (.or 9 (.re [(6, false), (7, true), (8, true), (10, false)] (.fl 0 (.fl 0 (.or 6 (.re [(7, true), (8, true), (10, false)] (.fl 2 (.fl 0 (.cut (.or 10 (.cut (.re [] (.weak (.leaf 0)))) (.stop)))))) (.stop))))) (.stop))))))) [(0, true), (1, true), (4, true), (5, true), (2, true), (3, true), (6, false), (7, true), (8, true), (9, false), (10, false)] [(1, [(2, 1), (3, 2), (8, 3), (10, 1)]), (2, [(3, 2), (8, 3), (10, 2)]), (3, [(8, 3), (10, 3)]), (5, [(6, 5), (7, 6), (8, 7), (10, 5)]), (6, [(7, 6), (8, 7), (10, 6)]), (7, [(8, 7), (10, 7)]), (8, [(10, 8)]), (9, [(10, 9)]), (10, [])] (by kernel_rfl) ?_
    intro w2 hM' hww2; clear hM; have hM := hM'; clear hM'
    refine o_re ?_
    refine o_fl rfl ?_
    refine s_move hE rfl rfl ?_; clear hE a; intro a hE
    refine s_indexRd (j := 0) hE rfl (hM.get 0 rfl) rfl slt55 (by first | rfl | omega) (by have hl_ : ((bs.drop (69 * i)).take 69).length = 69 := (by simp; try omega); first | omega | (rw [bv_length]; omega) | (simp; omega)) rfl ?_; clear hE a; intro a p35 hE hc35 hp35
    refine s_move hE rfl rfl ?_; clear hE a; intro a hE
    have hcap39 := rd_len (hM.get 0 rfl)
    refine s_slice (l := 1) (h := 5) (mx' := (c - 69 * i)) hE rfl (hM.get 0 rfl) slt55 ⟨_, rfl⟩ ⟨_, rfl⟩ rfl (by simp) (by have hl_ : ((bs.drop (69 * i)).take 69).length = 69 := (by simp; try omega); first | omega | assumption | (simp; done) | (simp; omega) | decide) (by have hl_ : ((bs.drop (69 * i)).take 69).length = 69 := (by simp; try omega); first | omega | assumption | (simp; done) | (simp; omega) | decide) (by have hl_ : ((bs.drop (69 * i)).take 69).length = 69 := (by simp; try omega); first | omega | assumption | (simp; done) | (simp; omega) | decide) (by have hl_ : ((bs.drop (69 * i)).take 69).length = 69 := (by simp; try omega); first | omega | assumption | (simp; done) | (simp; omega) | decide) rfl ?_; clear hE a; intro a v39 hE hr39 hvb39
    replace hr39 : (rd v39 1 ((((bs.drop (69 * i)).take 69).drop 1).take 4).length ((c - 69 * i) - 1) (bv ((((bs.drop (69 * i)).take 69).drop 1).take 4))).holds _ := rd_mid (by first | omega | assumption | (simp; done) | (simp; omega) | decide) hr39
    replace hM := hM.addPart 0 rfl hr39 hvb39; clear hr39
    refine q_nil (q_nx ?_)
    refine o_weak (fun _ => False) (fun _ _ => trivial) ?_
    refine o_fl rfl ?_
    rw [bv_elem (by have hl_ : ((bs.drop (69 * i)).take 69).length = 69 := (by simp; try omega); first | omega | (rw [bv_length]; omega) | (simp; omega))] at hc35
    refine s_loadAt1 hE rfl hc35 one5 (by intro X h; cases h; simp) rfl ?_; clear hE a; intro a hE
    refine s_conv hE rfl (cnv_int Try.underlying5 Try.underlying3 (wrap_i64 (by omega) (by have := (((bs.drop (69 * i)).take 69).getD 0 0 : UInt8).toNat_lt; omega))) rfl ?_; clear hE a; intro a hE
    refine q_nil (q_nx ?_)
    refine o_or rfl ?_ ?_
    · refine s_call hE rfl Try.call58 (rvalue_c _ ((((bs.drop (69 * i)).take 69).drop 1).take 4) _ _ (hM.get 0 rfl) (by have hl_0 : ((((bs.drop (69 * i)).take 69).drop 1).take 4).length = 4 := (by have hl_q : ((bs.drop (69 * i)).take 69).length = 69 := (by simp; try omega); simp; try omega); first | omega | assumption | (simp; done) | (simp; omega) | decide)) rfl ?_
      rintro e w3 ⟨rfl, hN⟩
      refine ⟨_, rfl, hN.sta0 _, ?_⟩; clear hE a; intro a hE
      replace hM : Mem _ _ w3 [_, _, _, _] := hM.call0 hN trivial; clear hN
      refine q_nil (q_nx ?_)
      refine o_re ?_
      refine o_fl rfl ?_
      refine s_conv hE rfl (cnv_int Try.underlying24 Try.underlying3 (wrap_i64 (by omega) (by omega))) rfl ?_; clear hE a; intro a hE
      refine s_buildS [[.int .i64 (((((bs.drop (69 * i)).take 69).getD 0 0).toNat : Nat) : Int)], [.int .i64 ((val ((((bs.drop (69 * i)).take 69).drop 1).take 4) : Nat) : Int)]] hE rfl zero84 rfl fpl84 (by simp [PartsOk, Value.cells, *]) rfl ?_; clear hE a; intro a hE
      replace hE := hE.cast 42 rfl (show _ = Value.agg ([[.int .i64 (((((bs.drop (69 * i)).take 69).getD 0 0).toNat : Nat) : Int)], [.int .i64 ((val ((((bs.drop (69 * i)).take 69).drop 1).take 4) : Nat) : Int)], bv (List.replicate 64 (0 : UInt8))] : List (List Value)).flatten.toArray from (by first | rfl | simp [setAll]))
      refine q_nil (q_nx ?_)
      refine o_fl rfl ?_
      refine q_nil (q_nx ?_)
      refine o_or rfl ?_ ?_
      · refine s_alloc [1, 1, 64] hE hM zero84 rfl rfl ?_; clear hE a; intro a b9 w4 hE hM'
        clear hM; have hM := hM'; clear hM'
        refine q_nil (q_nx ?_)
        refine o_cut (fun _ => True) ?_
        refine o_re ?_
        refine o_fl rfl ?_
        refine q_nil (q_nx ?_)
        refine o_fl rfl ?_
        refine q_nil (q_nx ?_)
        refine o_weak (fun b => b = b9) (fun _ _ => trivial) ?_
        refine o_or rfl ?_ ?_
        · refine s_storeSegs 0 3 (vss := [[.int .i64 (((((bs.drop (69 * i)).take 69).getD 0 0).toNat : Nat) : Int)], [.int .i64 ((val ((((bs.drop (69 * i)).take 69).drop 1).take 4) : Nat) : Int)], bv (List.replicate 64 (0 : UInt8))]) hE rfl rfl hM rfl sz84 (by have hl_s2 : (List.replicate 64 (0 : UInt8)).length = 64 := (by first | (simp; done) | (simp [*]; done) | (simp; omega));  simp only [List.map_cons, List.map_nil, bv_length, List.length_cons, List.length_nil, List.take_succ_cons, List.take_zero, List.drop_zero, List.drop_succ_cons, hl_s2]) (by decide) rfl (one_fl ⟨one1 rfl, one1 rfl, bv_one _, trivial⟩) rfl (by intro X h; cases h; rfl) ?_; intro w5 hM'; clear hM; have hM := hM'; clear hM'
          simp only [List.take_zero, List.take_succ_cons, List.drop_zero, List.drop_succ_cons, List.take_nil, List.drop_nil, List.nil_append, List.append_nil, List.cons_append] at hM
          refine q_nil (q_nx ?_)
          refine o_cut (fun _ => True) ?_
          refine o_re ?_
          refine o_weak (fun _ => False) (fun _ _ => trivial) ?_
          refine o_leaf rfl rfl ?_
          refine q_nil (q_ph (q_nil ?_))
          replace hE : Env a 63 [(0, _), (1, _), (4, _), (5, _), (6, _), (7, _), (8, _), (9, _), (16, _), (21, _), (24, _)] := hE.sel [0, 1, 4, 5, 6, 7, 8, 9, 16, 21, 24] rfl
          refine hK13 _ _ ?_
          refine wp_seq_k (fun K14 hK14 => ?_)
          refine wp_seq_k (fun K15 hK15 => ?_)
          refine wp_plain [true] rfl rfl ?_
          refine s_assign hE rfl rfl ?_; clear hE a; intro a hE
          refine q_nil ?_
          refine hK15 _ _ ?_
          refine wp_block ?_
          replace hM := Mem.blkEq (ss := [[.int .i64 (((((bs.drop (69 * i)).take 69).getD 0 0).toNat : Nat) : Int)], [.int .i64 ((val ((((bs.drop (69 * i)).take 69).drop 1).take 4) : Nat) : Int)], bv (List.replicate 64 (0 : UInt8))]) (ss' := [[.int .i64 ((val ((bs.drop (69 * i)).take 1) : Nat) : Int)], [.int .i64 ((val ((bs.drop (69 * i + 1)).take 4) : Nat) : Int)], bv (((bs.drop (69 * i + 5)).take 64).take 0 ++ List.replicate (64 - 0) 0)]) hM (by rw [gw_one (by omega), gw_four]; simp)
          refine c_loop (fun (k : Nat) a w' => k ≤ 64 ∧ Env a 63 [(0, v), (1, .int .i64 ((n : Nat) : Int)), (4, .slice none 0 0), (5, .int .i64 0), (6, vl6), (7, .int .i64 ((i : Nat) : Int)), (8, v33), (9, .pointer (some ⟨b9, 0, none⟩)), (10, .int .i64 ((k : Nat) : Int)), (16, .bool false), (21, .bool false), (24, .bool true)] ∧ Mem w [] w' [blk b9 [[.int .i64 ((val ((bs.drop (69 * i)).take 1) : Nat) : Int)], [.int .i64 ((val ((bs.drop (69 * i + 1)).take 4) : Nat) : Int)], bv (((bs.drop (69 * i + 5)).take 64).take k ++ List.replicate (64 - k) 0)] [1, 1, 64] 84, rd v39 1 ((((bs.drop (69 * i)).take 69).drop 1).take 4).length ((c - 69 * i) - 1) (bv ((((bs.drop (69 * i)).take 69).drop 1).take 4)), rd v33 1 ((bs.drop (69 * i)).take 69).length (c - 69 * i) (bv ((bs.drop (69 * i)).take 69)), own vl6 66 ((wAts bs i).length) ((wAts bs i).flatMap wcl), rd v 1 bs.length c (bv bs)]) (fun k => 64 - k) 0 ⟨Nat.zero_le _, hE.sel [0, 1, 4, 5, 6, 7, 8, 9, 10, 16, 21, 24] rfl, hM⟩ ?_
          clear hE hM a; rintro k a w6 ⟨hk, hE, hM⟩
          refine wp_seq_k (fun K16 hK16 => ?_)
          refine wp_seq_k (fun K17 hK17 => ?_)
          refine wp_plain [true, true] rfl rfl ?_
          refine s_move hE rfl rfl ?_; clear hE a; intro a hE
          refine s_bin hE rfl rfl bin_lss rfl ?_; clear hE a; intro a hE
          refine q_nil ?_
          replace hE : Env a 63 [(0, _), (1, _), (4, _), (5, _), (6, _), (7, _), (8, _), (9, _), (10, _), (16, _), (21, _), (24, _), (44, _)] := hE.sel [0, 1, 4, 5, 6, 7, 8, 9, 10, 16, 21, 24, 44] rfl
          refine hK17 _ _ ?_
          refine hE.split 44 rfl (fun hb44 hE' => ?_) (fun hb44 hE' => ?_)
          · replace hE := hE'; clear hE'
            replace hb44 := of_decide_eq_true hb44
            replace hb44 : k < 64 := by omega
            replace hb44 : k < 64 := by omega
            refine wp_cond_true (hE.eval rfl) ?_
            refine wp_skip ?_
            refine hK16 _ _ ?_
            refine wp_seq_k (fun K18 hK18 => ?_)
            refine wp_block ?_
            refine wp_plain [true, true, true, true, true, true, true, true, false] rfl rfl ?_
            refine s_move hE rfl rfl ?_; clear hE a; intro a hE
            refine s_move hE rfl rfl ?_; clear hE a; intro a hE
            refine s_move hE rfl rfl ?_; clear hE a; intro a hE
            refine s_bin hE rfl rfl (show Bin _ _ _ _ _ (.int .i64 ((5 + k : Nat) : Int)) from bin_add (by rw [wrap_i64 (by omega) (by omega)]; omega)) rfl ?_; clear hE a; intro a hE
            refine s_indexRd (j := 5 + k) hE rfl (hM.get 2 rfl) rfl slt55 (by first | rfl | omega) (by have hl_ : ((bs.drop (69 * i)).take 69).length = 69 := (by simp; try omega); first | omega | (rw [bv_length]; omega) | (simp; omega)) rfl ?_; clear hE a; intro a p51 hE hc51 hp51
            rw [bv_elem (by have hl_ : ((bs.drop (69 * i)).take 69).length = 69 := (by simp; try omega); first | omega | (rw [bv_length]; omega) | (simp; omega))] at hc51
            refine s_loadAt1 hE rfl hc51 one5 (by intro X h; cases h) rfl ?_; clear hE a; intro a hE
            refine s_fieldAddr hE rfl fo84_2 rfl ?_; clear hE a; intro a hE
            refine s_indexArr (j := k) hE rfl rfl arr59 (by first | rfl | omega) (by first | omega | decide) rfl ?_; clear hE a; intro a hE
            refine s_storePart8 (j := k) (g := ((bs.drop (69 * i + 5)).take 64).take k ++ List.replicate (64 - k) 0) (c := ((bs.drop (69 * i)).take 69).getD (5 + k) 0) 2 hE rfl (by first | rfl | omega | (simp; done) | (simp; omega)) rfl hM sz5 rfl (by have hl_ : (((bs.drop (69 * i + 5)).take 64).take k ++ List.replicate (64 - k) 0).length = 64 := (cpy_len (by first | (simp; done) | (simp; omega)) (by omega)); first | omega | (rw [bv_length]; omega) | (simp; omega)) (by intro X h; cases h) ?_; intro w7 hM'; clear hM; have hM := hM'; clear hM'
            simp only [List.set_cons_zero, List.set_cons_succ] at hM
            refine q_nil ?_
            replace hE : Env a 63 [(0, _), (1, _), (4, _), (5, _), (6, _), (7, _), (8, _), (9, _), (10, _), (16, _), (21, _), (24, _), (44, _)] := hE.sel [0, 1, 4, 5, 6, 7, 8, 9, 10, 16, 21, 24, 44] rfl
            refine q_block_n ?_
            refine hK18 _ _ ?_
            refine wp_plain [true, true, true] rfl rfl ?_
            refine s_move hE rfl rfl ?_; clear hE a; intro a hE
            refine s_bin hE rfl rfl (show Bin _ _ _ _ _ (.int .i64 ((k + 1 : Nat) : Int)) from bin_add (by rw [wrap_i64 (by omega) (by omega)]; omega)) rfl ?_; clear hE a; intro a hE
            refine s_assign hE rfl rfl ?_; clear hE a; intro a hE
            refine q_nil ?_
            replace hE : Env a 63 [(0, _), (1, _), (4, _), (5, _), (6, _), (7, _), (8, _), (9, _), (10, _), (16, _), (21, _), (24, _), (44, _)] := hE.sel [0, 1, 4, 5, 6, 7, 8, 9, 10, 16, 21, 24, 44] rfl
            replace hE := hE.cast 10 rfl (show _ = Value.int .i64 (((k + 1) : Nat) : Int) from (congrArg _ (by omega)))
            replace hM := Mem.blkEq (ss := [[.int .i64 ((val ((bs.drop (69 * i)).take 1) : Nat) : Int)], [.int .i64 ((val ((bs.drop (69 * i + 1)).take 4) : Nat) : Int)], bv ((((bs.drop (69 * i + 5)).take 64).take k ++ List.replicate (64 - k) 0).set k (((bs.drop (69 * i)).take 69).getD (5 + k) 0))]) (ss' := [[.int .i64 ((val ((bs.drop (69 * i)).take 1) : Nat) : Int)], [.int .i64 ((val ((bs.drop (69 * i + 1)).take 4) : Nat) : Int)], bv (((bs.drop (69 * i + 5)).take 64).take (k + 1) ++ List.replicate (64 - (k + 1)) 0)]) hM (by rw [gw_data (by omega), cpy_set (by simp; omega) (by simp; omega)])
            replace hM : Mem _ _ w7 [_, _, _, _, _] := hM.pick [0, 1, 2, 3, 4] rfl
            exact ⟨k + 1, ⟨by omega, hE.sel [0, 1, 4, 5, 6, 7, 8, 9, 10, 16, 21, 24] rfl, hM⟩, by omega⟩
          · replace hE := hE'; clear hE'
            replace hb44 := of_decide_eq_false hb44
            replace hb44 : ¬ (k < 64) := by omega
            obtain rfl : 64 = k := by omega
            replace hM := Mem.blkEq (ss := [[.int .i64 ((val ((bs.drop (69 * i)).take 1) : Nat) : Int)], [.int .i64 ((val ((bs.drop (69 * i + 1)).take 4) : Nat) : Int)], bv (((bs.drop (69 * i + 5)).take 64).take 64 ++ List.replicate (64 - 64) 0)]) (ss' := [[.int .i64 ((val ((bs.drop (69 * i)).take 1) : Nat) : Int)], [.int .i64 ((val ((bs.drop (69 * i + 1)).take 4) : Nat) : Int)], bv ((bs.drop (69 * i + 5)).take 64)]) hM (by rw [cpy_end (by simp; omega)])
            refine wp_cond_false (hE.eval rfl) ?_
            refine wp_exit ?_
            refine q_then_e ?_
            refine q_then_e ?_
            refine q_block_x ?_
            refine hK14 _ _ ?_
            refine wp_seq_k (fun K18 hK18 => ?_)
            refine wp_seq_k (fun K19 hK19 => ?_)
            refine wp_plain [true, false, true] rfl rfl ?_
            refine s_loadN hE rfl (hM.get 0 rfl) row84 rfl (by intro X h; cases h) rfl ?_; clear hE a; intro a hE
            replace hE := hE.cast 55 rfl (show _ = Value.agg ([[.int .i64 ((val ((bs.drop (69 * i)).take 1) : Nat) : Int)], [.int .i64 ((val ((bs.drop (69 * i + 1)).take 4) : Nat) : Int)], bv ((bs.drop (69 * i + 5)).take 64)] : List (List Value)).flatten.toArray from (by first | rfl | simp))
            refine s_call hE rfl Try.call61 (rmaywrite_c ((val ((bs.drop (69 * i)).take 1) : Nat) : Int) ((val ((bs.drop (69 * i + 1)).take 4) : Nat) : Int) ((bs.drop (69 * i + 5)).take 64) _ (by simp; omega)) rfl ?_
            rintro e w7 ⟨rfl, hN⟩
            refine ⟨_, rfl, trivial, ?_⟩; clear hE a; intro a hE
            replace hM : Mem _ _ w7 [_, _, _, _, _] := hM.call0 hN trivial; clear hN
            refine s_not hE rfl rfl ?_; clear hE a; intro a hE
            refine q_nil ?_
            replace hE : Env a 63 [(0, _), (1, _), (4, _), (5, _), (6, _), (7, _), (8, _), (9, _), (10, _), (16, _), (21, _), (24, _), (44, _), (57, _)] := hE.sel [0, 1, 4, 5, 6, 7, 8, 9, 10, 16, 21, 24, 44, 57] rfl
            refine hK19 _ _ ?_
            replace hE := hE.cast 57 rfl (show _ = Value.bool false from (congrArg Value.bool (congrArg not (gw_all hall (show i < n by omega)))))
            refine wp_cond_false (hE.eval rfl) ?_
            refine wp_skip ?_
            refine hK18 _ _ ?_
            refine wp_plain [true, true, false, false, true] rfl rfl ?_
            refine s_move hE rfl rfl ?_; clear hE a; intro a hE
            refine s_loadN hE rfl (hM.get 0 rfl) row84 rfl (by intro X h; cases h) rfl ?_; clear hE a; intro a hE
            replace hE := hE.cast 59 rfl (show _ = Value.agg ([[.int .i64 ((val ((bs.drop (69 * i)).take 1) : Nat) : Int)], [.int .i64 ((val ((bs.drop (69 * i + 1)).take 4) : Nat) : Int)], bv ((bs.drop (69 * i + 5)).take 64)] : List (List Value)).flatten.toArray from (by first | rfl | simp))
            have hro60_0 : OkWr (((val ((bs.drop (69 * i)).take 1) : Nat) : Int), ((val ((bs.drop (69 * i + 1)).take 4) : Nat) : Int), (bs.drop (69 * i + 5)).take 64) := ⟨(by simp; omega), by unfold In64; simp only; omega, by unfold In64; simp only; omega⟩
            refine s_buildSlice (xs := [.tmp 59]) (([(((val ((bs.drop (69 * i)).take 1) : Nat) : Int), ((val ((bs.drop (69 * i + 1)).take 4) : Nat) : Int), (bs.drop (69 * i + 5)).take 64)] : List Wr).flatMap wcl) hE hM sl77 rfl rfl rfl (by intro v hv; simp only [List.mem_cons, List.not_mem_nil, or_false] at hv; rcases hv with rfl; exact wcl_len hro60_0.1) (by simp [Value.cells, wcl]) rfl rfl rfl ?_; clear hE a; intro a v60 w8 hE hM'
            clear hM; have hM := hM'; clear hM'
            replace hM := hM.ownEq (m' := ([(((val ((bs.drop (69 * i)).take 1) : Nat) : Int), ((val ((bs.drop (69 * i + 1)).take 4) : Nat) : Int), (bs.drop (69 * i + 5)).take 64)] : List Wr).length) (cs' := ([(((val ((bs.drop (69 * i)).take 1) : Nat) : Int), ((val ((bs.drop (69 * i + 1)).take 4) : Nat) : Int), (bs.drop (69 * i + 5)).take 64)] : List Wr).flatMap wcl) rfl rfl
            replace hM : Mem _ _ w8 [_, _, _, _, _, _] := hM.pick [4, 0, 1, 2, 3, 5] rfl
            obtain ⟨cq1, hq1⟩ := own_rd (hM.get 1 rfl)
            refine s_append hE rfl rfl hM sl77 (Src.rd Try.underlying77 hq1 (wcls_one _)) (len47 (by first | omega | (simp; omega))) (by first | omega | (simp; omega)) (by intro X h; cases h) rfl ?_; clear hE a; intro a v61 w9 hE hM'; clear hM; have hM := hM'; clear hM'
            replace hM := Mem.ownRowsL (f := wcl) (ls := wAts bs i) (ms := ([(((val ((bs.drop (69 * i)).take 1) : Nat) : Int), ((val ((bs.drop (69 * i + 1)).take 4) : Nat) : Int), (bs.drop (69 * i + 5)).take 64)] : List Wr)) hM rfl rfl
            replace hM : Mem _ _ w9 [_, _, _, _, _] := hM.pick [0, 2, 3, 4, 5] rfl
            refine s_assign hE rfl rfl ?_; clear hE a; intro a hE
            refine q_nil ?_
            replace hE : Env a 63 [(0, _), (1, _), (4, _), (5, _), (6, _), (7, _), (8, _), (9, _), (10, _), (16, _), (21, _), (24, _), (44, _), (57, _)] := hE.sel [0, 1, 4, 5, 6, 7, 8, 9, 10, 16, 21, 24, 44, 57] rfl
            refine q_block_n ?_
            refine hK11 _ _ ?_
            refine wp_plain [true, true, true] rfl rfl ?_
            refine s_move hE rfl rfl ?_; clear hE a; intro a hE
            refine s_bin hE rfl rfl (show Bin _ _ _ _ _ (.int .i64 ((i + 1 : Nat) : Int)) from bin_add (by rw [wrap_i64 (by omega) (by omega)]; omega)) rfl ?_; clear hE a; intro a hE
            refine s_assign hE rfl rfl ?_; clear hE a; intro a hE
            refine q_nil ?_
            replace hE : Env a 63 [(0, _), (1, _), (4, _), (5, _), (6, _), (7, _), (8, _), (9, _), (10, _), (16, _), (21, _), (24, _), (44, _), (57, _)] := hE.sel [0, 1, 4, 5, 6, 7, 8, 9, 10, 16, 21, 24, 44, 57] rfl
            replace hE := hE.cast 7 rfl (show _ = Value.int .i64 (((i + 1) : Nat) : Int) from (congrArg _ (by omega)))
            replace hM := Mem.ownRowsEq (f := wcl) (ls := (wAts bs i) ++ ([(((val ((bs.drop (69 * i)).take 1) : Nat) : Int), ((val ((bs.drop (69 * i + 1)).take 4) : Nat) : Int), (bs.drop (69 * i + 5)).take 64)] : List Wr)) (ms := wAts bs (i + 1)) hM ((wAts_succ _ _).symm)
            replace hM : Mem _ _ w9 [_, _] := hM.pick [0, 4] rfl
            exact ⟨i + 1, ⟨by omega, _, hE.sel [0, 1, 4, 5, 6, 7, 16, 21] rfl, hM⟩, by omega⟩
        trivial
      trivial
    refine o_or rfl ?_ ?_
    · refine s_alloc [1, 1, 64] hE hM zero84 rfl rfl ?_; clear hE a; intro a b9 w3 hE hM'
      clear hM; have hM := hM'; clear hM'
      refine q_nil (q_nx ?_)
      refine o_re ?_
      refine o_fl rfl ?_
      refine q_nil (q_nx ?_)
      refine o_fl rfl ?_
      refine q_nil (q_nx ?_)
      refine o_or rfl ?_ ?_
      · refine s_call hE rfl Try.call58 (rvalue_c _ ((((bs.drop (69 * i)).take 69).drop 1).take 4) _ _ (hM.get 1 rfl) (by have hl_0 : ((((bs.drop (69 * i)).take 69).drop 1).take 4).length = 4 := (by have hl_q : ((bs.drop (69 * i)).take 69).length = 69 := (by simp; try omega); simp; try omega); first | omega | assumption | (simp; done) | (simp; omega) | decide)) rfl ?_
        rintro e w4 ⟨rfl, hN⟩
        refine ⟨_, rfl, hN.sta0 _, ?_⟩; clear hE a; intro a hE
        replace hM : Mem _ _ w4 [_, _, _, _, _] := hM.call0 hN trivial; clear hN
        refine q_nil (q_nx ?_)
        refine o_re ?_
        refine o_fl rfl ?_
        refine s_conv hE rfl (cnv_int Try.underlying24 Try.underlying3 (wrap_i64 (by omega) (by omega))) rfl ?_; clear hE a; intro a hE
        refine s_buildS [[.int .i64 (((((bs.drop (69 * i)).take 69).getD 0 0).toNat : Nat) : Int)], [.int .i64 ((val ((((bs.drop (69 * i)).take 69).drop 1).take 4) : Nat) : Int)]] hE rfl zero84 rfl fpl84 (by simp [PartsOk, Value.cells, *]) rfl ?_; clear hE a; intro a hE
        replace hE := hE.cast 42 rfl (show _ = Value.agg ([[.int .i64 (((((bs.drop (69 * i)).take 69).getD 0 0).toNat : Nat) : Int)], [.int .i64 ((val ((((bs.drop (69 * i)).take 69).drop 1).take 4) : Nat) : Int)], bv (List.replicate 64 (0 : UInt8))] : List (List Value)).flatten.toArray from (by first | rfl | simp [setAll]))
        refine q_nil (q_nx ?_)
        refine o_fl rfl ?_
        refine q_nil (q_nx ?_)
        refine o_cut (fun b => b = b9) ?_
        refine o_or rfl ?_ ?_
        · refine s_storeSegs 0 3 (vss := [[.int .i64 (((((bs.drop (69 * i)).take 69).getD 0 0).toNat : Nat) : Int)], [.int .i64 ((val ((((bs.drop (69 * i)).take 69).drop 1).take 4) : Nat) : Int)], bv (List.replicate 64 (0 : UInt8))]) hE rfl rfl hM rfl sz84 (by have hl_s2 : (List.replicate 64 (0 : UInt8)).length = 64 := (by first | (simp; done) | (simp [*]; done) | (simp; omega));  simp only [List.map_cons, List.map_nil, bv_length, List.length_cons, List.length_nil, List.take_succ_cons, List.take_zero, List.drop_zero, List.drop_succ_cons, hl_s2]) (by decide) rfl (one_fl ⟨one1 rfl, one1 rfl, bv_one _, trivial⟩) rfl (by intro X h; cases h; rfl) ?_; intro w5 hM'; clear hM; have hM := hM'; clear hM'
          simp only [List.take_zero, List.take_succ_cons, List.drop_zero, List.drop_succ_cons, List.take_nil, List.drop_nil, List.nil_append, List.append_nil, List.cons_append] at hM
          refine q_nil (q_nx ?_)
          refine o_cut (fun _ => True) ?_
          refine o_re ?_
          refine o_weak (fun _ => False) (fun _ _ => trivial) ?_
          refine o_leaf rfl rfl ?_
          refine q_nil (q_ph (q_nil ?_))
          replace hE : Env a 63 [(0, _), (1, _), (4, _), (5, _), (6, _), (7, _), (8, _), (9, _), (16, _), (21, _), (24, _)] := hE.sel [0, 1, 4, 5, 6, 7, 8, 9, 16, 21, 24] rfl
          refine hK13 _ _ ?_
          refine wp_seq_k (fun K14 hK14 => ?_)
          refine wp_seq_k (fun K15 hK15 => ?_)
          refine wp_plain [true] rfl rfl ?_
          refine s_assign hE rfl rfl ?_; clear hE a; intro a hE
          refine q_nil ?_
          refine hK15 _ _ ?_
          refine wp_block ?_
          replace hM := Mem.blkEq (ss := [[.int .i64 (((((bs.drop (69 * i)).take 69).getD 0 0).toNat : Nat) : Int)], [.int .i64 ((val ((((bs.drop (69 * i)).take 69).drop 1).take 4) : Nat) : Int)], bv (List.replicate 64 (0 : UInt8))]) (ss' := [[.int .i64 ((val ((bs.drop (69 * i)).take 1) : Nat) : Int)], [.int .i64 ((val ((bs.drop (69 * i + 1)).take 4) : Nat) : Int)], bv (((bs.drop (69 * i + 5)).take 64).take 0 ++ List.replicate (64 - 0) 0)]) hM (by rw [gw_one (by omega), gw_four]; simp)
          refine c_loop (fun (k : Nat) a w' => k ≤ 64 ∧ Env a 63 [(0, v), (1, .int .i64 ((n : Nat) : Int)), (4, .slice none 0 0), (5, .int .i64 0), (6, vl6), (7, .int .i64 ((i : Nat) : Int)), (8, v33), (9, .pointer (some ⟨b9, 0, none⟩)), (10, .int .i64 ((k : Nat) : Int)), (16, .bool false), (21, .bool false), (24, .bool true)] ∧ Mem w [] w' [blk b9 [[.int .i64 ((val ((bs.drop (69 * i)).take 1) : Nat) : Int)], [.int .i64 ((val ((bs.drop (69 * i + 1)).take 4) : Nat) : Int)], bv (((bs.drop (69 * i + 5)).take 64).take k ++ List.replicate (64 - k) 0)] [1, 1, 64] 84, rd v39 1 ((((bs.drop (69 * i)).take 69).drop 1).take 4).length ((c - 69 * i) - 1) (bv ((((bs.drop (69 * i)).take 69).drop 1).take 4)), rd v33 1 ((bs.drop (69 * i)).take 69).length (c - 69 * i) (bv ((bs.drop (69 * i)).take 69)), own vl6 66 ((wAts bs i).length) ((wAts bs i).flatMap wcl), rd v 1 bs.length c (bv bs)]) (fun k => 64 - k) 0 ⟨Nat.zero_le _, hE.sel [0, 1, 4, 5, 6, 7, 8, 9, 10, 16, 21, 24] rfl, hM⟩ ?_
          clear hE hM a; rintro k a w6 ⟨hk, hE, hM⟩
          refine wp_seq_k (fun K16 hK16 => ?_)
          refine wp_seq_k (fun K17 hK17 => ?_)
          refine wp_plain [true, true] rfl rfl ?_
          refine s_move hE rfl rfl ?_; clear hE a; intro a hE
          refine s_bin hE rfl rfl bin_lss rfl ?_; clear hE a; intro a hE
          refine q_nil ?_
          replace hE : Env a 63 [(0, _), (1, _), (4, _), (5, _), (6, _), (7, _), (8, _), (9, _), (10, _), (16, _), (21, _), (24, _), (44, _)] := hE.sel [0, 1, 4, 5, 6, 7, 8, 9, 10, 16, 21, 24, 44] rfl
          refine hK17 _ _ ?_
          refine hE.split 44 rfl (fun hb44 hE' => ?_) (fun hb44 hE' => ?_)
          · replace hE := hE'; clear hE'
            replace hb44 := of_decide_eq_true hb44
            replace hb44 : k < 64 := by omega
            replace hb44 : k < 64 := by omega
            refine wp_cond_true (hE.eval rfl) ?_
            refine wp_skip ?_
            refine hK16 _ _ ?_
            refine wp_seq_k (fun K18 hK18 => ?_)
            refine wp_block ?_
            refine wp_plain [true, true, true, true, true, true, true, true, false] rfl rfl ?_
            refine s_move hE rfl rfl ?_; clear hE a; intro a hE
            refine s_move hE rfl rfl ?_; clear hE a; intro a hE
            refine s_move hE rfl rfl ?_; clear hE a; intro a hE
            refine s_bin hE rfl rfl (show Bin _ _ _ _ _ (.int .i64 ((5 + k : Nat) : Int)) from bin_add (by rw [wrap_i64 (by omega) (by omega)]; omega)) rfl ?_; clear hE a; intro a hE
            refine s_indexRd (j := 5 + k) hE rfl (hM.get 2 rfl) rfl slt55 (by first | rfl | omega) (by have hl_ : ((bs.drop (69 * i)).take 69).length = 69 := (by simp; try omega); first | omega | (rw [bv_length]; omega) | (simp; omega)) rfl ?_; clear hE a; intro a p51 hE hc51 hp51
            rw [bv_elem (by have hl_ : ((bs.drop (69 * i)).take 69).length = 69 := (by simp; try omega); first | omega | (rw [bv_length]; omega) | (simp; omega))] at hc51
            refine s_loadAt1 hE rfl hc51 one5 (by intro X h; cases h) rfl ?_; clear hE a; intro a hE
            refine s_fieldAddr hE rfl fo84_2 rfl ?_; clear hE a; intro a hE
            refine s_indexArr (j := k) hE rfl rfl arr59 (by first | rfl | omega) (by first | omega | decide) rfl ?_; clear hE a; intro a hE
            refine s_storePart8 (j := k) (g := ((bs.drop (69 * i + 5)).take 64).take k ++ List.replicate (64 - k) 0) (c := ((bs.drop (69 * i)).take 69).getD (5 + k) 0) 2 hE rfl (by first | rfl | omega | (simp; done) | (simp; omega)) rfl hM sz5 rfl (by have hl_ : (((bs.drop (69 * i + 5)).take 64).take k ++ List.replicate (64 - k) 0).length = 64 := (cpy_len (by first | (simp; done) | (simp; omega)) (by omega)); first | omega | (rw [bv_length]; omega) | (simp; omega)) (by intro X h; cases h) ?_; intro w7 hM'; clear hM; have hM := hM'; clear hM'
            simp only [List.set_cons_zero, List.set_cons_succ] at hM
            refine q_nil ?_
            replace hE : Env a 63 [(0, _), (1, _), (4, _), (5, _), (6, _), (7, _), (8, _), (9, _), (10, _), (16, _), (21, _), (24, _), (44, _)] := hE.sel [0, 1, 4, 5, 6, 7, 8, 9, 10, 16, 21, 24, 44] rfl
            refine q_block_n ?_
            refine hK18 _ _ ?_
            refine wp_plain [true, true, true] rfl rfl ?_
            refine s_move hE rfl rfl ?_; clear hE a; intro a hE
            refine s_bin hE rfl rfl (show Bin _ _ _ _ _ (.int .i64 ((k + 1 : Nat) : Int)) from bin_add (by rw [wrap_i64 (by omega) (by omega)]; omega)) rfl ?_; clear hE a; intro a hE
            refine s_assign hE rfl rfl ?_; clear hE a; intro a hE
            refine q_nil ?_
            replace hE : Env a 63 [(0, _), (1, _), (4, _), (5, _), (6, _), (7, _), (8, _), (9, _), (10, _), (16, _), (21, _), (24, _), (44, _)] := hE.sel [0, 1, 4, 5, 6, 7, 8, 9, 10, 16, 21, 24, 44] rfl
            replace hE := hE.cast 10 rfl (show _ = Value.int .i64 (((k + 1) : Nat) : Int) from (congrArg _ (by omega)))
            replace hM := Mem.blkEq (ss := [[.int .i64 ((val ((bs.drop (69 * i)).take 1) : Nat) : Int)], [.int .i64 ((val ((bs.drop (69 * i + 1)).take 4) : Nat) : Int)], bv ((((bs.drop (69 * i + 5)).take 64).take k ++ List.replicate (64 - k) 0).set k (((bs.drop (69 * i)).take 69).getD (5 + k) 0))]) (ss' := [[.int .i64 ((val ((bs.drop (69 * i)).take 1) : Nat) : Int)], [.int .i64 ((val ((bs.drop (69 * i + 1)).take 4) : Nat) : Int)], bv (((bs.drop (69 * i + 5)).take 64).take (k + 1) ++ List.replicate (64 - (k + 1)) 0)]) hM (by rw [gw_data (by omega), cpy_set (by simp; omega) (by simp; omega)])
            replace hM : Mem _ _ w7 [_, _, _, _, _] := hM.pick [0, 1, 2, 3, 4] rfl
            exact ⟨k + 1, ⟨by omega, hE.sel [0, 1, 4, 5, 6, 7, 8, 9, 10, 16, 21, 24] rfl, hM⟩, by omega⟩
          · replace hE := hE'; clear hE'
            replace hb44 := of_decide_eq_false hb44
            replace hb44 : ¬ (k < 64) := by omega
            obtain rfl : 64 = k := by omega
            replace hM := Mem.blkEq (ss := [[.int .i64 ((val ((bs.drop (69 * i)).take 1) : Nat) : Int)], [.int .i64 ((val ((bs.drop (69 * i + 1)).take 4) : Nat) : Int)], bv (((bs.drop (69 * i + 5)).take 64).take 64 ++ List.replicate (64 - 64) 0)]) (ss' := [[.int .i64 ((val ((bs.drop (69 * i)).take 1) : Nat) : Int)], [.int .i64 ((val ((bs.drop (69 * i + 1)).take 4) : Nat) : Int)], bv ((bs.drop (69 * i + 5)).take 64)]) hM (by rw [cpy_end (by simp; omega)])
            refine wp_cond_false (hE.eval rfl) ?_
            refine wp_exit ?_
            refine q_then_e ?_
            refine q_then_e ?_
            refine q_block_x ?_
            refine hK14 _ _ ?_
            refine wp_seq_k (fun K18 hK18 => ?_)
            refine wp_seq_k (fun K19 hK19 => ?_)
            refine wp_plain [true, false, true] rfl rfl ?_
            refine s_loadN hE rfl (hM.get 0 rfl) row84 rfl (by intro X h; cases h) rfl ?_; clear hE a; intro a hE
            replace hE := hE.cast 55 rfl (show _ = Value.agg ([[.int .i64 ((val ((bs.drop (69 * i)).take 1) : Nat) : Int)], [.int .i64 ((val ((bs.drop (69 * i + 1)).take 4) : Nat) : Int)], bv ((bs.drop (69 * i + 5)).take 64)] : List (List Value)).flatten.toArray from (by first | rfl | simp))
            refine s_call hE rfl Try.call61 (rmaywrite_c ((val ((bs.drop (69 * i)).take 1) : Nat) : Int) ((val ((bs.drop (69 * i + 1)).take 4) : Nat) : Int) ((bs.drop (69 * i + 5)).take 64) _ (by simp; omega)) rfl ?_
            rintro e w7 ⟨rfl, hN⟩
            refine ⟨_, rfl, trivial, ?_⟩; clear hE a; intro a hE
            replace hM : Mem _ _ w7 [_, _, _, _, _] := hM.call0 hN trivial; clear hN
            refine s_not hE rfl rfl ?_; clear hE a; intro a hE
            refine q_nil ?_
            replace hE : Env a 63 [(0, _), (1, _), (4, _), (5, _), (6, _), (7, _), (8, _), (9, _), (10, _), (16, _), (21, _), (24, _), (44, _), (57, _)] := hE.sel [0, 1, 4, 5, 6, 7, 8, 9, 10, 16, 21, 24, 44, 57] rfl
            refine hK19 _ _ ?_
            replace hE := hE.cast 57 rfl (show _ = Value.bool false from (congrArg Value.bool (congrArg not (gw_all hall (show i < n by omega)))))
            refine wp_cond_false (hE.eval rfl) ?_
            refine wp_skip ?_
            refine hK18 _ _ ?_
            refine wp_plain [true, true, false, false, true] rfl rfl ?_
            refine s_move hE rfl rfl ?_; clear hE a; intro a hE
            refine s_loadN hE rfl (hM.get 0 rfl) row84 rfl (by intro X h; cases h) rfl ?_; clear hE a; intro a hE
            replace hE := hE.cast 59 rfl (show _ = Value.agg ([[.int .i64 ((val ((bs.drop (69 * i)).take 1) : Nat) : Int)], [.int .i64 ((val ((bs.drop (69 * i + 1)).take 4) : Nat) : Int)], bv ((bs.drop (69 * i + 5)).take 64)] : List (List Value)).flatten.toArray from (by first | rfl | simp))
            have hro60_0 : OkWr (((val ((bs.drop (69 * i)).take 1) : Nat) : Int), ((val ((bs.drop (69 * i + 1)).take 4) : Nat) : Int), (bs.drop (69 * i + 5)).take 64) := ⟨(by simp; omega), by unfold In64; simp only; omega, by unfold In64; simp only; omega⟩
            refine s_buildSlice (xs := [.tmp 59]) (([(((val ((bs.drop (69 * i)).take 1) : Nat) : Int), ((val ((bs.drop (69 * i + 1)).take 4) : Nat) : Int), (bs.drop (69 * i + 5)).take 64)] : List Wr).flatMap wcl) hE hM sl77 rfl rfl rfl (by intro v hv; simp only [List.mem_cons, List.not_mem_nil, or_false] at hv; rcases hv with rfl; exact wcl_len hro60_0.1) (by simp [Value.cells, wcl]) rfl rfl rfl ?_; clear hE a; intro a v60 w8 hE hM'
            clear hM; have hM := hM'; clear hM'
            replace hM := hM.ownEq (m' := ([(((val ((bs.drop (69 * i)).take 1) : Nat) : Int), ((val ((bs.drop (69 * i + 1)).take 4) : Nat) : Int), (bs.drop (69 * i + 5)).take 64)] : List Wr).length) (cs' := ([(((val ((bs.drop (69 * i)).take 1) : Nat) : Int), ((val ((bs.drop (69 * i + 1)).take 4) : Nat) : Int), (bs.drop (69 * i + 5)).take 64)] : List Wr).flatMap wcl) rfl rfl
            replace hM : Mem _ _ w8 [_, _, _, _, _, _] := hM.pick [4, 0, 1, 2, 3, 5] rfl
            obtain ⟨cq2, hq2⟩ := own_rd (hM.get 1 rfl)
            refine s_append hE rfl rfl hM sl77 (Src.rd Try.underlying77 hq2 (wcls_one _)) (len47 (by first | omega | (simp; omega))) (by first | omega | (simp; omega)) (by intro X h; cases h) rfl ?_; clear hE a; intro a v61 w9 hE hM'; clear hM; have hM := hM'; clear hM'
            replace hM := Mem.ownRowsL (f := wcl) (ls := wAts bs i) (ms := ([(((val ((bs.drop (69 * i)).take 1) : Nat) : Int), ((val ((bs.drop (69 * i + 1)).take 4) : Nat) : Int), (bs.drop (69 * i + 5)).take 64)] : List Wr)) hM rfl rfl
            replace hM : Mem _ _ w9 [_, _, _, _, _] := hM.pick [0, 2, 3, 4, 5] rfl
            refine s_assign hE rfl rfl ?_; clear hE a; intro a hE
            refine q_nil ?_
            replace hE : Env a 63 [(0, _), (1, _), (4, _), (5, _), (6, _), (7, _), (8, _), (9, _), (10, _), (16, _), (21, _), (24, _), (44, _), (57, _)] := hE.sel [0, 1, 4, 5, 6, 7, 8, 9, 10, 16, 21, 24, 44, 57] rfl
            refine q_block_n ?_
            refine hK11 _ _ ?_
            refine wp_plain [true, true, true] rfl rfl ?_
            refine s_move hE rfl rfl ?_; clear hE a; intro a hE
            refine s_bin hE rfl rfl (show Bin _ _ _ _ _ (.int .i64 ((i + 1 : Nat) : Int)) from bin_add (by rw [wrap_i64 (by omega) (by omega)]; omega)) rfl ?_; clear hE a; intro a hE
            refine s_assign hE rfl rfl ?_; clear hE a; intro a hE
            refine q_nil ?_
            replace hE : Env a 63 [(0, _), (1, _), (4, _), (5, _), (6, _), (7, _), (8, _), (9, _), (10, _), (16, _), (21, _), (24, _), (44, _), (57, _)] := hE.sel [0, 1, 4, 5, 6, 7, 8, 9, 10, 16, 21, 24, 44, 57] rfl
            replace hE := hE.cast 7 rfl (show _ = Value.int .i64 (((i + 1) : Nat) : Int) from (congrArg _ (by omega)))
            replace hM := Mem.ownRowsEq (f := wcl) (ls := (wAts bs i) ++ ([(((val ((bs.drop (69 * i)).take 1) : Nat) : Int), ((val ((bs.drop (69 * i + 1)).take 4) : Nat) : Int), (bs.drop (69 * i + 5)).take 64)] : List Wr)) (ms := wAts bs (i + 1)) hM ((wAts_succ _ _).symm)
            replace hM : Mem _ _ w9 [_, _] := hM.pick [0, 4] rfl
            exact ⟨i + 1, ⟨by omega, _, hE.sel [0, 1, 4, 5, 6, 7, 16, 21] rfl, hM⟩, by omega⟩
        trivial
      trivial
    trivial
  · replace hE := hE'; clear hE'
    replace hb24 := of_decide_eq_false hb24
    replace hb24 : ¬ (i < n) := by omega
    obtain rfl : n = i := by omega
    refine wp_cond_false (hE.eval rfl) ?_
    refine wp_exit ?_
    refine q_then_e ?_
    refine q_then_e ?_
    refine q_block_x ?_
    refine hK7 _ _ ?_
    refine wp_seq_k (fun K11 hK11 => ?_)
    refine wp_plain [true, true, true] rfl rfl ?_
    refine s_move hE rfl rfl ?_; clear hE a; intro a hE
    refine s_assign hE rfl rfl ?_; clear hE a; intro a hE
    refine s_assign hE rfl rfl ?_; clear hE a; intro a hE
    refine q_nil ?_
    replace hE : Env a 63 [(0, _), (1, _), (4, _), (5, _), (6, _), (7, _), (16, _), (21, _), (24, _)] := hE.sel [0, 1, 4, 5, 6, 7, 16, 21, 24] rfl
    refine hK11 _ _ ?_
    refine wp_ret ?_
    refine f_ret2 hE rfl rfl rfl ?_
    exact ⟨_, (by first | rfl | (simp; done)), hM.pick [0] rfl⟩
theorem rgw_bad (v : Value) (bs : List UInt8) (c : Nat) (n : Nat) (w : World) (hr_bs : (rd v 1 bs.length c (bv bs)).holds w) (hn : n ≤ 65536) (hlen : bs.length = 69 * n) (hall : (wAts bs n).all mayW = false) : Calls Try.prog 35 #[v, .int .i64 (n : Int)] w fun e w' => ∃ v'0, e = .returned (.tuple #[v'0, .int .i64 4]) ∧ Mem w [] w' [own v'0 66 (([] : List Wr).length) (([] : List Wr).flatMap wcl)] := by
  have hM : Mem w [] w [rd v 1 bs.length c (bv bs)] := Mem.startR w (fun g hg => by
    simp only [List.mem_cons, List.not_mem_nil, or_false] at hg
    rcases hg with rfl
    · exact ⟨hr_bs, rfl⟩)
  refine f_enter 63 Try.func35 rfl rfl rfl ?_
  intro a hE
  replace hE : Env a 63 [(0, _), (1, _)] := hE
  refine wp_seq_k (fun K1 hK1 => ?_)
  refine wp_plain [true, true] rfl rfl ?_
  refine s_assign hE rfl rfl ?_; clear hE a; intro a hE
  refine s_assign hE rfl rfl ?_; clear hE a; intro a hE
  refine q_nil ?_
  refine hK1 _ _ ?_
  refine wp_seq_k (fun K2 hK2 => ?_)
  refine wp_seq_k (fun K3 hK3 => ?_)
  refine wp_plain [true, true, true, true, true, true] rfl rfl ?_
  refine s_move hE rfl rfl ?_; clear hE a; intro a hE
  refine s_bin hE rfl rfl bin_lss rfl ?_; clear hE a; intro a hE
  refine s_move hE rfl rfl ?_; clear hE a; intro a hE
  replace hE := hE.cast 13 rfl (show _ = Value.bool false from (congrArg Value.bool (decide_eq_false (by omega))))
  refine g_yes hE rfl rfl ?_
  refine s_move hE rfl rfl ?_; clear hE a; intro a hE
  refine g_yes hE rfl rfl ?_
  refine s_bin hE rfl rfl bin_gtr rfl ?_; clear hE a; intro a hE
  refine s_pickf hE rfl rfl rfl ?_; clear hE a; intro a hE
  refine q_nil ?_
  replace hE : Env a 63 [(0, _), (1, _), (4, _), (5, _), (16, _)] := hE.sel [0, 1, 4, 5, 16] rfl
  refine hK3 _ _ ?_
  replace hE := hE.cast 16 rfl (show _ = Value.bool false from (congrArg Value.bool (decide_eq_false (by omega))))
  refine wp_cond_false (hE.eval rfl) ?_
  refine wp_skip ?_
  refine hK2 _ _ ?_
  refine wp_seq_k (fun K4 hK4 => ?_)
  refine wp_seq_k (fun K5 hK5 => ?_)
  refine wp_plain [true, true, true, true, true] rfl rfl ?_
  refine s_move hE rfl rfl ?_; clear hE a; intro a hE
  refine s_len hE rfl Try.underlying55 (rd_slice (hM.get 0 rfl)) rfl ?_; clear hE a; intro a hE
  refine s_move hE rfl rfl ?_; clear hE a; intro a hE
  refine s_bin hE rfl rfl (show Bin _ _ _ _ _ (.int .i64 ((69 * n : Nat) : Int)) from bin_mul (by rw [wrap_i64 (by omega) (by omega)]; omega)) rfl ?_; clear hE a; intro a hE
  refine s_bin hE rfl rfl bin_neq rfl ?_; clear hE a; intro a hE
  refine q_nil ?_
  replace hE : Env a 63 [(0, _), (1, _), (4, _), (5, _), (16, _), (21, _)] := hE.sel [0, 1, 4, 5, 16, 21] rfl
  refine hK5 _ _ ?_
  replace hE := hE.cast 21 rfl (show _ = Value.bool false from (congrArg Value.bool (by first | rfl | (rw [decide_eq_true (by omega)]; rfl))))
  refine wp_cond_false (hE.eval rfl) ?_
  refine wp_skip ?_
  refine hK4 _ _ ?_
  refine wp_seq_k (fun K6 hK6 => ?_)
  refine wp_plain [true] rfl rfl ?_
  refine s_assign hE rfl rfl ?_; clear hE a; intro a hE
  refine q_nil ?_
  refine hK6 _ _ ?_
  refine wp_seq_k (fun K7 hK7 => ?_)
  refine wp_seq_k (fun K8 hK8 => ?_)
  refine wp_plain [true] rfl rfl ?_
  refine s_assign hE rfl rfl ?_; clear hE a; intro a hE
  refine q_nil ?_
  refine hK8 _ _ ?_
  refine wp_block ?_
  replace hM := hM.addNil 66
  replace hM := hM.ownEq (m' := ([] : List Wr).length) (cs' := ([] : List Wr).flatMap wcl) rfl rfl
  replace hM := Mem.ownRowsEq (f := wcl) (ls := ([] : List Wr)) (ms := wAts bs 0) hM rfl
  refine c_loop (fun (i : Nat) a w' => i ≤ n ∧ (wAts bs i).all mayW = true ∧ ∃ vl6, Env a 63 [(0, v), (1, .int .i64 ((n : Nat) : Int)), (4, .slice none 0 0), (5, .int .i64 0), (6, vl6), (7, .int .i64 ((i : Nat) : Int)), (16, .bool false), (21, .bool false)] ∧ Mem w [] w' [own vl6 66 ((wAts bs i).length) ((wAts bs i).flatMap wcl), rd v 1 bs.length c (bv bs)]) (fun i => n - i) 0 ⟨Nat.zero_le _, rfl, _, hE.sel [0, 1, 4, 5, 6, 7, 16, 21] rfl, hM⟩ ?_
  clear hE hM a; rintro i a w1 ⟨hi, hpre, vl6, hE, hM⟩
  refine wp_seq_k (fun K9 hK9 => ?_)
  refine wp_seq_k (fun K10 hK10 => ?_)
  refine wp_plain [true, true, true] rfl rfl ?_
  refine s_move hE rfl rfl ?_; clear hE a; intro a hE
  refine s_move hE rfl rfl ?_; clear hE a; intro a hE
  refine s_bin hE rfl rfl bin_lss rfl ?_; clear hE a; intro a hE
  refine q_nil ?_
  replace hE : Env a 63 [(0, _), (1, _), (4, _), (5, _), (6, _), (7, _), (16, _), (21, _), (24, _)] := hE.sel [0, 1, 4, 5, 6, 7, 16, 21, 24] rfl
  refine hK10 _ _ ?_
  refine hE.split 24 rfl (fun hb24 hE' => ?_) (fun hb24 hE' => ?_)
  · replace hE := hE'; clear hE'
    replace hb24 := of_decide_eq_true hb24
    replace hb24 : i < n := by omega
    replace hb24 : i < n := by omega
    have hv1 := val1 (l := (bs.drop (69 * i)).take 1) (by simp; omega)
    have hv4 := val4 (l := (bs.drop (69 * i + 1)).take 4) (by simp; omega)
    have hv4r := val4 (l := (((bs.drop (69 * i)).take 69).drop 1).take 4) (by simp; omega)
    refine wp_cond_true (hE.eval rfl) ?_
    refine wp_skip ?_
    refine hK9 _ _ ?_
    refine wp_seq_k (fun K11 hK11 => ?_)
    refine wp_block ?_
    refine wp_seq_k (fun K12 hK12 => ?_)
    refine wp_plain [true, true, true, true, true, true, true, true] rfl rfl ?_
    refine s_move hE rfl rfl ?_; clear hE a; intro a hE
    refine s_move hE rfl rfl ?_; clear hE a; intro a hE
    refine s_bin hE rfl rfl (show Bin _ _ _ _ _ (.int .i64 ((69 * i : Nat) : Int)) from bin_mul (by rw [wrap_i64 (by omega) (by omega)]; omega)) rfl ?_; clear hE a; intro a hE
    refine s_move hE rfl rfl ?_; clear hE a; intro a hE
    refine s_bin hE rfl rfl (show Bin _ _ _ _ _ (.int .i64 ((69 * i : Nat) : Int)) from bin_mul (by rw [wrap_i64 (by omega) (by omega)]; omega)) rfl ?_; clear hE a; intro a hE
    refine s_bin hE rfl rfl (show Bin _ _ _ _ _ (.int .i64 (((69 * i) + 69 : Nat) : Int)) from bin_add (by rw [wrap_i64 (by omega) (by omega)]; omega)) rfl ?_; clear hE a; intro a hE
    have hcap33 := rd_len (hM.get 1 rfl)
    refine s_slice (l := 69 * i) (h := (69 * i) + 69) (mx' := c) hE rfl (hM.get 1 rfl) slt55 ⟨_, rfl⟩ ⟨_, rfl⟩ rfl (by simp) (by first | omega | assumption | (simp; done) | (simp; omega) | decide) (by first | omega | assumption | (simp; done) | (simp; omega) | decide) (by first | omega | assumption | (simp; done) | (simp; omega) | decide) (by first | omega | assumption | (simp; done) | (simp; omega) | decide) rfl ?_; clear hE a; intro a v33 hE hr33 hvb33
    replace hr33 : (rd v33 1 ((bs.drop (69 * i)).take 69).length (c - 69 * i) (bv ((bs.drop (69 * i)).take 69))).holds _ := rd_midN hr33 (by first | omega | assumption | (simp; done) | (simp; omega) | decide) (by omega)
    replace hM := hM.addPart 1 rfl hr33 hvb33; clear hr33
    refine s_assign hE rfl rfl ?_; clear hE a; intro a hE
    refine q_nil ?_
    replace hE : Env a 63 [(0, _), (1, _), (4, _), (5, _), (6, _), (7, _), (8, _), (16, _), (21, _), (24, _)] := hE.sel [0, 1, 4, 5, 6, 7, 8, 16, 21, 24] rfl
    refine hK12 _ _ ?_
    refine wp_seq_k (fun K13 hK13 => ?_)
    refine wp_treeM hM (by kernel_rfl) (fun _ => True) (fun _ => True) (.re [(0, true), (1, true), (4, true), (5, true), (2, true), (3, true), (6, false), (7, true), (8, true), (9, false), (10, false)] (.fl 4 (.weak (.fl 2 (.or 6 (.re [(7, true), (8, true), (9, false), (10, false)] (.fl 2 (.fl 0 (.or 9 (.cut (.re [(10, false)] (.fl 0 (.fl 0 (.weak (.or 10 (.cut (.re [] (.weak (.leaf 0)))) (.stop))))))) (.stop))))) (.or 9 (.re [(6, false), (7, true), (8, true), (10, false)] (.fl 0 (.fl 0 (.or 6 (.re [(7, true), (8, true), (10, false)] (.fl 2 (.fl 0 (.cut (.or 10 (.cut (.re [] (.weak (.leaf 0)))) (.stop)))))) (.stop))))) (.stop))))))) [(0, true), (1, true), (4, true), (5, true), (2, true), (3, true), (6, false), (7, true), (8, true), (9, false), (10, false)] [(1, [(2, 1), (3, 2), (8, 3), (10, 1)]), (2, [(3, 2), (8, 3), (10, 2)]), (3, [(8, 3), (10, 3)]), (5, [(6, 5), (7, 6), (8, 7), (10, 5)]), (6, [(7, 6), (8, 7), (10, 6)]), (7, [(8, 7), (10, 7)]), (8, [(10, 8)]), (9, [(10, 9)]), (10, [])] (by kernel_rfl) ?_
    intro w2 hM' hww2; clear hM; have hM := hM'; clear hM'
    refine o_re ?_
    refine o_fl rfl ?_
    refine s_move hE rfl rfl ?_; clear hE a; intro a hE
    refine s_indexRd (j := 0) hE rfl (hM.get 0 rfl) rfl slt55 (by first | rfl | omega) (by have hl_ : ((bs.drop (69 * i)).take 69).length = 69 := (by simp; try omega); first | omega | (rw [bv_length]; omega) | (simp; omega)) rfl ?_; clear hE a; intro a p35 hE hc35 hp35
    refine s_move hE rfl rfl ?_; clear hE a; intro a hE
    have hcap39 := rd_len (hM.get 0 rfl)
    refine s_slice (l := 1) (h := 5) (mx' := (c - 69 * i)) hE rfl (hM.get 0 rfl) slt55 ⟨_, rfl⟩ ⟨_, rfl⟩ rfl (by simp) (by have hl_ : ((bs.drop (69 * i)).take 69).length = 69 := (by simp; try omega); first | omega | assumption | (simp; done) | (simp; omega) | decide) (by have hl_ : ((bs.drop (69 * i)).take 69).length = 69 := (by simp; try omega); first | omega | assumption | (simp; done) | (simp; omega) | decide) (by have hl_ : ((bs.drop (69 * i)).take 69).length = 69 := (by simp; try omega); first | omega | assumption | (simp; done) | (simp; omega) | decide) (by have hl_ : ((bs.drop (69 * i)).take 69).length = 69 := (by simp; try omega); first | omega | assumption | (simp; done) | (simp; omega) | decide) rfl ?_; clear hE a; intro a v39 hE hr39 hvb39
    replace hr39 : (rd v39 1 ((((bs.drop (69 * i)).take 69).drop 1).take 4).length ((c - 69 * i) - 1) (bv ((((bs.drop (69 * i)).take 69).drop 1).take 4))).holds _ := rd_mid (by first | omega | assumption | (simp; done) | (simp; omega) | decide) hr39
    replace hM := hM.addPart 0 rfl hr39 hvb39; clear hr39
    refine q_nil (q_nx ?_)
    refine o_weak (fun _ => False) (fun _ _ => trivial) ?_
    refine o_fl rfl ?_
    rw [bv_elem (by have hl_ : ((bs.drop (69 * i)).take 69).length = 69 := (by simp; try omega); first | omega | (rw [bv_length]; omega) | (simp; omega))] at hc35
    refine s_loadAt1 hE rfl hc35 one5 (by intro X h; cases h; simp) rfl ?_; clear hE a; intro a hE
    refine s_conv hE rfl (cnv_int Try.underlying5 Try.underlying3 (wrap_i64 (by omega) (by have := (((bs.drop (69 * i)).take 69).getD 0 0 : UInt8).toNat_lt; omega))) rfl ?_; clear hE a; intro a hE
    refine q_nil (q_nx ?_)
    refine o_or rfl ?_ ?_
    · refine s_call hE rfl Try.call58 (rvalue_c _ ((((bs.drop (69 * i)).take 69).drop 1).take 4) _ _ (hM.get 0 rfl) (by have hl_0 : ((((bs.drop (69 * i)).take 69).drop 1).take 4).length = 4 := (by have hl_q : ((bs.drop (69 * i)).take 69).length = 69 := (by simp; try omega); simp; try omega); first | omega | assumption | (simp; done) | (simp; omega) | decide)) rfl ?_
      rintro e w3 ⟨rfl, hN⟩
      refine ⟨_, rfl, hN.sta0 _, ?_⟩; clear hE a; intro a hE
      replace hM : Mem _ _ w3 [_, _, _, _] := hM.call0 hN trivial; clear hN
      refine q_nil (q_nx ?_)
      refine o_re ?_
      refine o_fl rfl ?_
      refine s_conv hE rfl (cnv_int Try.underlying24 Try.underlying3 (wrap_i64 (by omega) (by omega))) rfl ?_; clear hE a; intro a hE
      refine s_buildS [[.int .i64 (((((bs.drop (69 * i)).take 69).getD 0 0).toNat : Nat) : Int)], [.int .i64 ((val ((((bs.drop (69 * i)).take 69).drop 1).take 4) : Nat) : Int)]] hE rfl zero84 rfl fpl84 (by simp [PartsOk, Value.cells, *]) rfl ?_; clear hE a; intro a hE
      replace hE := hE.cast 42 rfl (show _ = Value.agg ([[.int .i64 (((((bs.drop (69 * i)).take 69).getD 0 0).toNat : Nat) : Int)], [.int .i64 ((val ((((bs.drop (69 * i)).take 69).drop 1).take 4) : Nat) : Int)], bv (List.replicate 64 (0 : UInt8))] : List (List Value)).flatten.toArray from (by first | rfl | simp [setAll]))
      refine q_nil (q_nx ?_)
      refine o_fl rfl ?_
      refine q_nil (q_nx ?_)
      refine o_or rfl ?_ ?_
      · refine s_alloc [1, 1, 64] hE hM zero84 rfl rfl ?_; clear hE a; intro a b9 w4 hE hM'
        clear hM; have hM := hM'; clear hM'
        refine q_nil (q_nx ?_)
        refine o_cut (fun _ => True) ?_
        refine o_re ?_
        refine o_fl rfl ?_
        refine q_nil (q_nx ?_)
        refine o_fl rfl ?_
        refine q_nil (q_nx ?_)
        refine o_weak (fun b => b = b9) (fun _ _ => trivial) ?_
        refine o_or rfl ?_ ?_
        · refine s_storeSegs 0 3 (vss := [[.int .i64 (((((bs.drop (69 * i)).take 69).getD 0 0).toNat : Nat) : Int)], [.int .i64 ((val ((((bs.drop (69 * i)).take 69).drop 1).take 4) : Nat) : Int)], bv (List.replicate 64 (0 : UInt8))]) hE rfl rfl hM rfl sz84 (by have hl_s2 : (List.replicate 64 (0 : UInt8)).length = 64 := (by first | (simp; done) | (simp [*]; done) | (simp; omega));  simp only [List.map_cons, List.map_nil, bv_length, List.length_cons, List.length_nil, List.take_succ_cons, List.take_zero, List.drop_zero, List.drop_succ_cons, hl_s2]) (by decide) rfl (one_fl ⟨one1 rfl, one1 rfl, bv_one _, trivial⟩) rfl (by intro X h; cases h; rfl) ?_; intro w5 hM'; clear hM; have hM := hM'; clear hM'
          simp only [List.take_zero, List.take_succ_cons, List.drop_zero, List.drop_succ_cons, List.take_nil, List.drop_nil, List.nil_append, List.append_nil, List.cons_append] at hM
          refine q_nil (q_nx ?_)
          refine o_cut (fun _ => True) ?_
          refine o_re ?_
          refine o_weak (fun _ => False) (fun _ _ => trivial) ?_
          refine o_leaf rfl rfl ?_
          refine q_nil (q_ph (q_nil ?_))
          replace hE : Env a 63 [(0, _), (1, _), (4, _), (5, _), (6, _), (7, _), (8, _), (9, _), (16, _), (21, _), (24, _)] := hE.sel [0, 1, 4, 5, 6, 7, 8, 9, 16, 21, 24] rfl
          refine hK13 _ _ ?_
          refine wp_seq_k (fun K14 hK14 => ?_)
          refine wp_seq_k (fun K15 hK15 => ?_)
          refine wp_plain [true] rfl rfl ?_
          refine s_assign hE rfl rfl ?_; clear hE a; intro a hE
          refine q_nil ?_
          refine hK15 _ _ ?_
          refine wp_block ?_
          replace hM := Mem.blkEq (ss := [[.int .i64 (((((bs.drop (69 * i)).take 69).getD 0 0).toNat : Nat) : Int)], [.int .i64 ((val ((((bs.drop (69 * i)).take 69).drop 1).take 4) : Nat) : Int)], bv (List.replicate 64 (0 : UInt8))]) (ss' := [[.int .i64 ((val ((bs.drop (69 * i)).take 1) : Nat) : Int)], [.int .i64 ((val ((bs.drop (69 * i + 1)).take 4) : Nat) : Int)], bv (((bs.drop (69 * i + 5)).take 64).take 0 ++ List.replicate (64 - 0) 0)]) hM (by rw [gw_one (by omega), gw_four]; simp)
          refine c_loop (fun (k : Nat) a w' => k ≤ 64 ∧ Env a 63 [(0, v), (1, .int .i64 ((n : Nat) : Int)), (4, .slice none 0 0), (5, .int .i64 0), (6, vl6), (7, .int .i64 ((i : Nat) : Int)), (8, v33), (9, .pointer (some ⟨b9, 0, none⟩)), (10, .int .i64 ((k : Nat) : Int)), (16, .bool false), (21, .bool false), (24, .bool true)] ∧ Mem w [] w' [blk b9 [[.int .i64 ((val ((bs.drop (69 * i)).take 1) : Nat) : Int)], [.int .i64 ((val ((bs.drop (69 * i + 1)).take 4) : Nat) : Int)], bv (((bs.drop (69 * i + 5)).take 64).take k ++ List.replicate (64 - k) 0)] [1, 1, 64] 84, rd v39 1 ((((bs.drop (69 * i)).take 69).drop 1).take 4).length ((c - 69 * i) - 1) (bv ((((bs.drop (69 * i)).take 69).drop 1).take 4)), rd v33 1 ((bs.drop (69 * i)).take 69).length (c - 69 * i) (bv ((bs.drop (69 * i)).take 69)), own vl6 66 ((wAts bs i).length) ((wAts bs i).flatMap wcl), rd v 1 bs.length c (bv bs)]) (fun k => 64 - k) 0 ⟨Nat.zero_le _, hE.sel [0, 1, 4, 5, 6, 7, 8, 9, 10, 16, 21, 24] rfl, hM⟩ ?_
          clear hE hM a; rintro k a w6 ⟨hk, hE, hM⟩
          refine wp_seq_k (fun K16 hK16 => ?_)
          refine wp_seq_k (fun K17 hK17 => ?_)
          refine wp_plain [true, true] rfl rfl ?_
          refine s_move hE rfl rfl ?_; clear hE a; intro a hE
          refine s_bin hE rfl rfl bin_lss rfl ?_; clear hE a; intro a hE
          refine q_nil ?_
          replace hE : Env a 63 [(0, _), (1, _), (4, _), (5, _), (6, _), (7, _), (8, _), (9, _), (10, _), (16, _), (21, _), (24, _), (44, _)] := hE.sel [0, 1, 4, 5, 6, 7, 8, 9, 10, 16, 21, 24, 44] rfl
          refine hK17 _ _ ?_
          refine hE.split 44 rfl (fun hb44 hE' => ?_) (fun hb44 hE' => ?_)
          · replace hE := hE'; clear hE'
            replace hb44 := of_decide_eq_true hb44
            replace hb44 : k < 64 := by omega
            replace hb44 : k < 64 := by omega
            refine wp_cond_true (hE.eval rfl) ?_
            refine wp_skip ?_
            refine hK16 _ _ ?_
            refine wp_seq_k (fun K18 hK18 => ?_)
            refine wp_block ?_
            refine wp_plain [true, true, true, true, true, true, true, true, false] rfl rfl ?_
            refine s_move hE rfl rfl ?_; clear hE a; intro a hE
            refine s_move hE rfl rfl ?_; clear hE a; intro a hE
            refine s_move hE rfl rfl ?_; clear hE a; intro a hE
            refine s_bin hE rfl rfl (show Bin _ _ _ _ _ (.int .i64 ((5 + k : Nat) : Int)) from bin_add (by rw [wrap_i64 (by omega) (by omega)]; omega)) rfl ?_; clear hE a; intro a hE
            refine s_indexRd (j := 5 + k) hE rfl (hM.get 2 rfl) rfl slt55 (by first | rfl | omega) (by have hl_ : ((bs.drop (69 * i)).take 69).length = 69 := (by simp; try omega); first | omega | (rw [bv_length]; omega) | (simp; omega)) rfl ?_; clear hE a; intro a p51 hE hc51 hp51
            rw [bv_elem (by have hl_ : ((bs.drop (69 * i)).take 69).length = 69 := (by simp; try omega); first | omega | (rw [bv_length]; omega) | (simp; omega))] at hc51
            refine s_loadAt1 hE rfl hc51 one5 (by intro X h; cases h) rfl ?_; clear hE a; intro a hE
            refine s_fieldAddr hE rfl fo84_2 rfl ?_; clear hE a; intro a hE
            refine s_indexArr (j := k) hE rfl rfl arr59 (by first | rfl | omega) (by first | omega | decide) rfl ?_; clear hE a; intro a hE
            refine s_storePart8 (j := k) (g := ((bs.drop (69 * i + 5)).take 64).take k ++ List.replicate (64 - k) 0) (c := ((bs.drop (69 * i)).take 69).getD (5 + k) 0) 2 hE rfl (by first | rfl | omega | (simp; done) | (simp; omega)) rfl hM sz5 rfl (by have hl_ : (((bs.drop (69 * i + 5)).take 64).take k ++ List.replicate (64 - k) 0).length = 64 := (cpy_len (by first | (simp; done) | (simp; omega)) (by omega)); first | omega | (rw [bv_length]; omega) | (simp; omega)) (by intro X h; cases h) ?_; intro w7 hM'; clear hM; have hM := hM'; clear hM'
            simp only [List.set_cons_zero, List.set_cons_succ] at hM
            refine q_nil ?_
            replace hE : Env a 63 [(0, _), (1, _), (4, _), (5, _), (6, _), (7, _), (8, _), (9, _), (10, _), (16, _), (21, _), (24, _), (44, _)] := hE.sel [0, 1, 4, 5, 6, 7, 8, 9, 10, 16, 21, 24, 44] rfl
            refine q_block_n ?_
            refine hK18 _ _ ?_
            refine wp_plain [true, true, true] rfl rfl ?_
            refine s_move hE rfl rfl ?_; clear hE a; intro a hE
            refine s_bin hE rfl rfl (show Bin _ _ _ _ _ (.int .i64 ((k + 1 : Nat) : Int)) from bin_add (by rw [wrap_i64 (by omega) (by omega)]; omega)) rfl ?_; clear hE a; intro a hE
            refine s_assign hE rfl rfl ?_; clear hE a; intro a hE
            refine q_nil ?_
            replace hE : Env a 63 [(0, _), (1, _), (4, _), (5, _), (6, _), (7, _), (8, _), (9, _), (10, _), (16, _), (21, _), (24, _), (44, _)] := hE.sel [0, 1, 4, 5, 6, 7, 8, 9, 10, 16, 21, 24, 44] rfl
            replace hE := hE.cast 10 rfl (show _ = Value.int .i64 (((k + 1) : Nat) : Int) from (congrArg _ (by omega)))
            replace hM := Mem.blkEq (ss := [[.int .i64 ((val ((bs.drop (69 * i)).take 1) : Nat) : Int)], [.int .i64 ((val ((bs.drop (69 * i + 1)).take 4) : Nat) : Int)], bv ((((bs.drop (69 * i + 5)).take 64).take k ++ List.replicate (64 - k) 0).set k (((bs.drop (69 * i)).take 69).getD (5 + k) 0))]) (ss' := [[.int .i64 ((val ((bs.drop (69 * i)).take 1) : Nat) : Int)], [.int .i64 ((val ((bs.drop (69 * i + 1)).take 4) : Nat) : Int)], bv (((bs.drop (69 * i + 5)).take 64).take (k + 1) ++ List.replicate (64 - (k + 1)) 0)]) hM (by rw [gw_data (by omega), cpy_set (by simp; omega) (by simp; omega)])
            replace hM : Mem _ _ w7 [_, _, _, _, _] := hM.pick [0, 1, 2, 3, 4] rfl
            exact ⟨k + 1, ⟨by omega, hE.sel [0, 1, 4, 5, 6, 7, 8, 9, 10, 16, 21, 24] rfl, hM⟩, by omega⟩
          · replace hE := hE'; clear hE'
            replace hb44 := of_decide_eq_false hb44
            replace hb44 : ¬ (k < 64) := by omega
            obtain rfl : 64 = k := by omega
            replace hM := Mem.blkEq (ss := [[.int .i64 ((val ((bs.drop (69 * i)).take 1) : Nat) : Int)], [.int .i64 ((val ((bs.drop (69 * i + 1)).take 4) : Nat) : Int)], bv (((bs.drop (69 * i + 5)).take 64).take 64 ++ List.replicate (64 - 64) 0)]) (ss' := [[.int .i64 ((val ((bs.drop (69 * i)).take 1) : Nat) : Int)], [.int .i64 ((val ((bs.drop (69 * i + 1)).take 4) : Nat) : Int)], bv ((bs.drop (69 * i + 5)).take 64)]) hM (by rw [cpy_end (by simp; omega)])
            refine wp_cond_false (hE.eval rfl) ?_
            refine wp_exit ?_
            refine q_then_e ?_
            refine q_then_e ?_
            refine q_block_x ?_
            refine hK14 _ _ ?_
            refine wp_seq_k (fun K18 hK18 => ?_)
            refine wp_seq_k (fun K19 hK19 => ?_)
            refine wp_plain [true, false, true] rfl rfl ?_
            refine s_loadN hE rfl (hM.get 0 rfl) row84 rfl (by intro X h; cases h) rfl ?_; clear hE a; intro a hE
            replace hE := hE.cast 55 rfl (show _ = Value.agg ([[.int .i64 ((val ((bs.drop (69 * i)).take 1) : Nat) : Int)], [.int .i64 ((val ((bs.drop (69 * i + 1)).take 4) : Nat) : Int)], bv ((bs.drop (69 * i + 5)).take 64)] : List (List Value)).flatten.toArray from (by first | rfl | simp))
            refine s_call hE rfl Try.call61 (rmaywrite_c ((val ((bs.drop (69 * i)).take 1) : Nat) : Int) ((val ((bs.drop (69 * i + 1)).take 4) : Nat) : Int) ((bs.drop (69 * i + 5)).take 64) _ (by simp; omega)) rfl ?_
            rintro e w7 ⟨rfl, hN⟩
            refine ⟨_, rfl, trivial, ?_⟩; clear hE a; intro a hE
            replace hM : Mem _ _ w7 [_, _, _, _, _] := hM.call0 hN trivial; clear hN
            refine s_not hE rfl rfl ?_; clear hE a; intro a hE
            refine q_nil ?_
            replace hE : Env a 63 [(0, _), (1, _), (4, _), (5, _), (6, _), (7, _), (8, _), (9, _), (10, _), (16, _), (21, _), (24, _), (44, _), (57, _)] := hE.sel [0, 1, 4, 5, 6, 7, 8, 9, 10, 16, 21, 24, 44, 57] rfl
            refine hK19 _ _ ?_
            refine hE.split 57 rfl (fun hb57 hE' => ?_) (fun hb57 hE' => ?_)
            · replace hE := hE'; clear hE'
              replace hb57 := not_true hb57
              refine wp_cond_true (hE.eval rfl) ?_
              refine wp_seq_k (fun K20 hK20 => ?_)
              refine wp_plain [true, true] rfl rfl ?_
              refine s_assign hE rfl rfl ?_; clear hE a; intro a hE
              refine s_assign hE rfl rfl ?_; clear hE a; intro a hE
              refine q_nil ?_
              refine hK20 _ _ ?_
              refine wp_ret ?_
              refine q_then_r ?_
              refine q_block_r ?_
              refine q_then_r ?_
              refine q_then_r ?_
              refine q_block_r ?_
              refine q_then_r ?_
              refine f_ret2 hE rfl rfl rfl ?_
              replace hM := hM.addNil 66
              replace hM := hM.ownEq (m' := ([] : List Wr).length) (cs' := ([] : List Wr).flatMap wcl) rfl rfl
              exact ⟨_, (by first | rfl | (simp; done)), hM.pick [0] rfl⟩
            · replace hE := hE'; clear hE'
              replace hb57 := not_false' hb57
              have hst := gw_step hpre hb57
              refine wp_cond_false (hE.eval rfl) ?_
              refine wp_skip ?_
              refine hK18 _ _ ?_
              refine wp_plain [true, true, false, false, true] rfl rfl ?_
              refine s_move hE rfl rfl ?_; clear hE a; intro a hE
              refine s_loadN hE rfl (hM.get 0 rfl) row84 rfl (by intro X h; cases h) rfl ?_; clear hE a; intro a hE
              replace hE := hE.cast 59 rfl (show _ = Value.agg ([[.int .i64 ((val ((bs.drop (69 * i)).take 1) : Nat) : Int)], [.int .i64 ((val ((bs.drop (69 * i + 1)).take 4) : Nat) : Int)], bv ((bs.drop (69 * i + 5)).take 64)] : List (List Value)).flatten.toArray from (by first | rfl | simp))
              have hro60_0 : OkWr (((val ((bs.drop (69 * i)).take 1) : Nat) : Int), ((val ((bs.drop (69 * i + 1)).take 4) : Nat) : Int), (bs.drop (69 * i + 5)).take 64) := ⟨(by simp; omega), by unfold In64; simp only; omega, by unfold In64; simp only; omega⟩
              refine s_buildSlice (xs := [.tmp 59]) (([(((val ((bs.drop (69 * i)).take 1) : Nat) : Int), ((val ((bs.drop (69 * i + 1)).take 4) : Nat) : Int), (bs.drop (69 * i + 5)).take 64)] : List Wr).flatMap wcl) hE hM sl77 rfl rfl rfl (by intro v hv; simp only [List.mem_cons, List.not_mem_nil, or_false] at hv; rcases hv with rfl; exact wcl_len hro60_0.1) (by simp [Value.cells, wcl]) rfl rfl rfl ?_; clear hE a; intro a v60 w8 hE hM'
              clear hM; have hM := hM'; clear hM'
              replace hM := hM.ownEq (m' := ([(((val ((bs.drop (69 * i)).take 1) : Nat) : Int), ((val ((bs.drop (69 * i + 1)).take 4) : Nat) : Int), (bs.drop (69 * i + 5)).take 64)] : List Wr).length) (cs' := ([(((val ((bs.drop (69 * i)).take 1) : Nat) : Int), ((val ((bs.drop (69 * i + 1)).take 4) : Nat) : Int), (bs.drop (69 * i + 5)).take 64)] : List Wr).flatMap wcl) rfl rfl
              replace hM : Mem _ _ w8 [_, _, _, _, _, _] := hM.pick [4, 0, 1, 2, 3, 5] rfl
              obtain ⟨cq1, hq1⟩ := own_rd (hM.get 1 rfl)
              refine s_append hE rfl rfl hM sl77 (Src.rd Try.underlying77 hq1 (wcls_one _)) (len47 (by first | omega | (simp; omega))) (by first | omega | (simp; omega)) (by intro X h; cases h) rfl ?_; clear hE a; intro a v61 w9 hE hM'; clear hM; have hM := hM'; clear hM'
              replace hM := Mem.ownRowsL (f := wcl) (ls := wAts bs i) (ms := ([(((val ((bs.drop (69 * i)).take 1) : Nat) : Int), ((val ((bs.drop (69 * i + 1)).take 4) : Nat) : Int), (bs.drop (69 * i + 5)).take 64)] : List Wr)) hM rfl rfl
              replace hM : Mem _ _ w9 [_, _, _, _, _] := hM.pick [0, 2, 3, 4, 5] rfl
              refine s_assign hE rfl rfl ?_; clear hE a; intro a hE
              refine q_nil ?_
              replace hE : Env a 63 [(0, _), (1, _), (4, _), (5, _), (6, _), (7, _), (8, _), (9, _), (10, _), (16, _), (21, _), (24, _), (44, _), (57, _)] := hE.sel [0, 1, 4, 5, 6, 7, 8, 9, 10, 16, 21, 24, 44, 57] rfl
              refine q_block_n ?_
              refine hK11 _ _ ?_
              refine wp_plain [true, true, true] rfl rfl ?_
              refine s_move hE rfl rfl ?_; clear hE a; intro a hE
              refine s_bin hE rfl rfl (show Bin _ _ _ _ _ (.int .i64 ((i + 1 : Nat) : Int)) from bin_add (by rw [wrap_i64 (by omega) (by omega)]; omega)) rfl ?_; clear hE a; intro a hE
              refine s_assign hE rfl rfl ?_; clear hE a; intro a hE
              refine q_nil ?_
              replace hE : Env a 63 [(0, _), (1, _), (4, _), (5, _), (6, _), (7, _), (8, _), (9, _), (10, _), (16, _), (21, _), (24, _), (44, _), (57, _)] := hE.sel [0, 1, 4, 5, 6, 7, 8, 9, 10, 16, 21, 24, 44, 57] rfl
              replace hE := hE.cast 7 rfl (show _ = Value.int .i64 (((i + 1) : Nat) : Int) from (congrArg _ (by omega)))
              replace hM := Mem.ownRowsEq (f := wcl) (ls := (wAts bs i) ++ ([(((val ((bs.drop (69 * i)).take 1) : Nat) : Int), ((val ((bs.drop (69 * i + 1)).take 4) : Nat) : Int), (bs.drop (69 * i + 5)).take 64)] : List Wr)) (ms := wAts bs (i + 1)) hM ((wAts_succ _ _).symm)
              replace hM : Mem _ _ w9 [_, _] := hM.pick [0, 4] rfl
              exact ⟨i + 1, ⟨by omega, hst, _, hE.sel [0, 1, 4, 5, 6, 7, 16, 21] rfl, hM⟩, by omega⟩
        trivial
      trivial
    refine o_or rfl ?_ ?_
    · refine s_alloc [1, 1, 64] hE hM zero84 rfl rfl ?_; clear hE a; intro a b9 w3 hE hM'
      clear hM; have hM := hM'; clear hM'
      refine q_nil (q_nx ?_)
      refine o_re ?_
      refine o_fl rfl ?_
      refine q_nil (q_nx ?_)
      refine o_fl rfl ?_
      refine q_nil (q_nx ?_)
      refine o_or rfl ?_ ?_
      · refine s_call hE rfl Try.call58 (rvalue_c _ ((((bs.drop (69 * i)).take 69).drop 1).take 4) _ _ (hM.get 1 rfl) (by have hl_0 : ((((bs.drop (69 * i)).take 69).drop 1).take 4).length = 4 := (by have hl_q : ((bs.drop (69 * i)).take 69).length = 69 := (by simp; try omega); simp; try omega); first | omega | assumption | (simp; done) | (simp; omega) | decide)) rfl ?_
        rintro e w4 ⟨rfl, hN⟩
        refine ⟨_, rfl, hN.sta0 _, ?_⟩; clear hE a; intro a hE
        replace hM : Mem _ _ w4 [_, _, _, _, _] := hM.call0 hN trivial; clear hN
        refine q_nil (q_nx ?_)
        refine o_re ?_
        refine o_fl rfl ?_
        refine s_conv hE rfl (cnv_int Try.underlying24 Try.underlying3 (wrap_i64 (by omega) (by omega))) rfl ?_; clear hE a; intro a hE
        refine s_buildS [[.int .i64 (((((bs.drop (69 * i)).take 69).getD 0 0).toNat : Nat) : Int)], [.int .i64 ((val ((((bs.drop (69 * i)).take 69).drop 1).take 4) : Nat) : Int)]] hE rfl zero84 rfl fpl84 (by simp [PartsOk, Value.cells, *]) rfl ?_; clear hE a; intro a hE
        replace hE := hE.cast 42 rfl (show _ = Value.agg ([[.int .i64 (((((bs.drop (69 * i)).take 69).getD 0 0).toNat : Nat) : Int)], [.int .i64 ((val ((((bs.drop (69 * i)).take 69).drop 1).take 4) : Nat) : Int)], bv (List.replicate 64 (0 : UInt8))] : List (List Value)).flatten.toArray from (by first | rfl | simp [setAll]))
        refine q_nil (q_nx ?_)
        refine o_fl rfl ?_
        refine q_nil (q_nx ?_)
        refine o_cut (fun b => b = b9) ?_
        refine o_or rfl ?_ ?_
        · refine s_storeSegs 0 3 (vss := [[.int .i64 (((((bs.drop (69 * i)).take 69).getD 0 0).toNat : Nat) : Int)], [.int .i64 ((val ((((bs.drop (69 * i)).take 69).drop 1).take 4) : Nat) : Int)], bv (List.replicate 64 (0 : UInt8))]) hE rfl rfl hM rfl sz84 (by have hl_s2 : (List.replicate 64 (0 : UInt8)).length = 64 := (by first | (simp; done) | (simp [*]; done) | (simp; omega));  simp only [List.map_cons, List.map_nil, bv_length, List.length_cons, List.length_nil, List.take_succ_cons, List.take_zero, List.drop_zero, List.drop_succ_cons, hl_s2]) (by decide) rfl (one_fl ⟨one1 rfl, one1 rfl, bv_one _, trivial⟩) rfl (by intro X h; cases h; rfl) ?_; intro w5 hM'; clear hM; have hM := hM'; clear hM'
          simp only [List.take_zero, List.take_succ_cons, List.drop_zero, List.drop_succ_cons, List.take_nil, List.drop_nil, List.nil_append, List.append_nil, List.cons_append] at hM
          refine q_nil (q_nx ?_)
          refine o_cut (fun _ => True) ?_
          refine o_re ?_
          refine o_weak (fun _ => False) (fun _ _ => trivial) ?_
          refine o_leaf rfl rfl ?_
          refine q_nil (q_ph (q_nil ?_))
          replace hE : Env a 63 [(0, _), (1, _), (4, _), (5, _), (6, _), (7, _), (8, _), (9, _), (16, _), (21, _), (24, _)] := hE.sel [0, 1, 4, 5, 6, 7, 8, 9, 16, 21, 24] rfl
          refine hK13 _ _ ?_
          refine wp_seq_k (fun K14 hK14 => ?_)
          refine wp_seq_k (fun K15 hK15 => ?_)
          refine wp_plain [true] rfl rfl ?_
          refine s_assign hE rfl rfl ?_; clear hE a; intro a hE
          refine q_nil ?_
          refine hK15 _ _ ?_
          refine wp_block ?_
          replace hM := Mem.blkEq (ss := [[.int .i64 (((((bs.drop (69 * i)).take 69).getD 0 0).toNat : Nat) : Int)], [.int .i64 ((val ((((bs.drop (69 * i)).take 69).drop 1).take 4) : Nat) : Int)], bv (List.replicate 64 (0 : UInt8))]) (ss' := [[.int .i64 ((val ((bs.drop (69 * i)).take 1) : Nat) : Int)], [.int .i64 ((val ((bs.drop (69 * i + 1)).take 4) : Nat) : Int)], bv (((bs.drop (69 * i + 5)).take 64).take 0 ++ List.replicate (64 - 0) 0)]) hM (by rw [gw_one (by omega), gw_four]; simp)
          refine c_loop (fun (k : Nat) a w' => k ≤ 64 ∧ Env a 63 [(0, v), (1, .int .i64 ((n : Nat) : Int)), (4, .slice none 0 0), (5, .int .i64 0), (6, vl6), (7, .int .i64 ((i : Nat) : Int)), (8, v33), (9, .pointer (some ⟨b9, 0, none⟩)), (10, .int .i64 ((k : Nat) : Int)), (16, .bool false), (21, .bool false), (24, .bool true)] ∧ Mem w [] w' [blk b9 [[.int .i64 ((val ((bs.drop (69 * i)).take 1) : Nat) : Int)], [.int .i64 ((val ((bs.drop (69 * i + 1)).take 4) : Nat) : Int)], bv (((bs.drop (69 * i + 5)).take 64).take k ++ List.replicate (64 - k) 0)] [1, 1, 64] 84, rd v39 1 ((((bs.drop (69 * i)).take 69).drop 1).take 4).length ((c - 69 * i) - 1) (bv ((((bs.drop (69 * i)).take 69).drop 1).take 4)), rd v33 1 ((bs.drop (69 * i)).take 69).length (c - 69 * i) (bv ((bs.drop (69 * i)).take 69)), own vl6 66 ((wAts bs i).length) ((wAts bs i).flatMap wcl), rd v 1 bs.length c (bv bs)]) (fun k => 64 - k) 0 ⟨Nat.zero_le _, hE.sel [0, 1, 4, 5, 6, 7, 8, 9, 10, 16, 21, 24] rfl, hM⟩ ?_
          clear hE hM a; rintro k a w6 ⟨hk, hE, hM⟩
          refine wp_seq_k (fun K16 hK16 => ?_)
          refine wp_seq_k (fun K17 hK17 => ?_)
          refine wp_plain [true, true] rfl rfl ?_
          refine s_move hE rfl rfl ?_; clear hE a; intro a hE
          refine s_bin hE rfl rfl bin_lss rfl ?_; clear hE a; intro a hE
          refine q_nil ?_
          replace hE : Env a 63 [(0, _), (1, _), (4, _), (5, _), (6, _), (7, _), (8, _), (9, _), (10, _), (16, _), (21, _), (24, _), (44, _)] := hE.sel [0, 1, 4, 5, 6, 7, 8, 9, 10, 16, 21, 24, 44] rfl
          refine hK17 _ _ ?_
          refine hE.split 44 rfl (fun hb44 hE' => ?_) (fun hb44 hE' => ?_)
          · replace hE := hE'; clear hE'
            replace hb44 := of_decide_eq_true hb44
            replace hb44 : k < 64 := by omega
            replace hb44 : k < 64 := by omega
            refine wp_cond_true (hE.eval rfl) ?_
            refine wp_skip ?_
            refine hK16 _ _ ?_
            refine wp_seq_k (fun K18 hK18 => ?_)
            refine wp_block ?_
            refine wp_plain [true, true, true, true, true, true, true, true, false] rfl rfl ?_
            refine s_move hE rfl rfl ?_; clear hE a; intro a hE
            refine s_move hE rfl rfl ?_; clear hE a; intro a hE
            refine s_move hE rfl rfl ?_; clear hE a; intro a hE
            refine s_bin hE rfl rfl (show Bin _ _ _ _ _ (.int .i64 ((5 + k : Nat) : Int)) from bin_add (by rw [wrap_i64 (by omega) (by omega)]; omega)) rfl ?_; clear hE a; intro a hE
            refine s_indexRd (j := 5 + k) hE rfl (hM.get 2 rfl) rfl slt55 (by first | rfl | omega) (by have hl_ : ((bs.drop (69 * i)).take 69).length = 69 := (by simp; try omega); first | omega | (rw [bv_length]; omega) | (simp; omega)) rfl ?_; clear hE a; intro a p51 hE hc51 hp51
            rw [bv_elem (by have hl_ : ((bs.drop (69 * i)).take 69).length = 69 := (by simp; try omega); first | omega | (rw [bv_length]; omega) | (simp; omega))] at hc51
            refine s_loadAt1 hE rfl hc51 one5 (by intro X h; cases h) rfl ?_; clear hE a; intro a hE
            refine s_fieldAddr hE rfl fo84_2 rfl ?_; clear hE a; intro a hE
            refine s_indexArr (j := k) hE rfl rfl arr59 (by first | rfl | omega) (by first | omega | decide) rfl ?_; clear hE a; intro a hE
            refine s_storePart8 (j := k) (g := ((bs.drop (69 * i + 5)).take 64).take k ++ List.replicate (64 - k) 0) (c := ((bs.drop (69 * i)).take 69).getD (5 + k) 0) 2 hE rfl (by first | rfl | omega | (simp; done) | (simp; omega)) rfl hM sz5 rfl (by have hl_ : (((bs.drop (69 * i + 5)).take 64).take k ++ List.replicate (64 - k) 0).length = 64 := (cpy_len (by first | (simp; done) | (simp; omega)) (by omega)); first | omega | (rw [bv_length]; omega) | (simp; omega)) (by intro X h; cases h) ?_; intro w7 hM'; clear hM; have hM := hM'; clear hM'
            simp only [List.set_cons_zero, List.set_cons_succ] at hM
            refine q_nil ?_
            replace hE : Env a 63 [(0, _), (1, _), (4, _), (5, _), (6, _), (7, _), (8, _), (9, _), (10, _), (16, _), (21, _), (24, _), (44, _)] := hE.sel [0, 1, 4, 5, 6, 7, 8, 9, 10, 16, 21, 24, 44] rfl
            refine q_block_n ?_
            refine hK18 _ _ ?_
            refine wp_plain [true, true, true] rfl rfl ?_
            refine s_move hE rfl rfl ?_; clear hE a; intro a hE
            refine s_bin hE rfl rfl (show Bin _ _ _ _ _ (.int .i64 ((k + 1 : Nat) : Int)) from bin_add (by rw [wrap_i64 (by omega) (by omega)]; omega)) rfl ?_; clear hE a; intro a hE
            refine s_assign hE rfl rfl ?_; clear hE a; intro a hE
            refine q_nil ?_
            replace hE : Env a 63 [(0, _), (1, _), (4, _), (5, _), (6, _), (7, _), (8, _), (9, _), (10, _), (16, _), (21, _), (24, _), (44, _)] := hE.sel [0, 1, 4, 5, 6, 7, 8, 9, 10, 16, 21, 24, 44] rfl
            replace hE := hE.cast 10 rfl (show _ = Value.int .i64 (((k + 1) : Nat) : Int) from (congrArg _ (by omega)))
            replace hM := Mem.blkEq (ss := [[.int .i64 ((val ((bs.drop (69 * i)).take 1) : Nat) : Int)], [.int .i64 ((val ((bs.drop (69 * i + 1)).take 4) : Nat) : Int)], bv ((((bs.drop (69 * i + 5)).take 64).take k ++ List.replicate (64 - k) 0).set k (((bs.drop (69 * i)).take 69).getD (5 + k) 0))]) (ss' := [[.int .i64 ((val ((bs.drop (69 * i)).take 1) : Nat) : Int)], [.int .i64 ((val ((bs.drop (69 * i + 1)).take 4) : Nat) : Int)], bv (((bs.drop (69 * i + 5)).take 64).take (k + 1) ++ List.replicate (64 - (k + 1)) 0)]) hM (by rw [gw_data (by omega), cpy_set (by simp; omega) (by simp; omega)])
            replace hM : Mem _ _ w7 [_, _, _, _, _] := hM.pick [0, 1, 2, 3, 4] rfl
            exact ⟨k + 1, ⟨by omega, hE.sel [0, 1, 4, 5, 6, 7, 8, 9, 10, 16, 21, 24] rfl, hM⟩, by omega⟩
          · replace hE := hE'; clear hE'
            replace hb44 := of_decide_eq_false hb44
            replace hb44 : ¬ (k < 64) := by omega
            obtain rfl : 64 = k := by omega
            replace hM := Mem.blkEq (ss := [[.int .i64 ((val ((bs.drop (69 * i)).take 1) : Nat) : Int)], [.int .i64 ((val ((bs.drop (69 * i + 1)).take 4) : Nat) : Int)], bv (((bs.drop (69 * i + 5)).take 64).take 64 ++ List.replicate (64 - 64) 0)]) (ss' := [[.int .i64 ((val ((bs.drop (69 * i)).take 1) : Nat) : Int)], [.int .i64 ((val ((bs.drop (69 * i + 1)).take 4) : Nat) : Int)], bv ((bs.drop (69 * i + 5)).take 64)]) hM (by rw [cpy_end (by simp; omega)])
            refine wp_cond_false (hE.eval rfl) ?_
            refine wp_exit ?_
            refine q_then_e ?_
            refine q_then_e ?_
            refine q_block_x ?_
            refine hK14 _ _ ?_
            refine wp_seq_k (fun K18 hK18 => ?_)
            refine wp_seq_k (fun K19 hK19 => ?_)
            refine wp_plain [true, false, true] rfl rfl ?_
            refine s_loadN hE rfl (hM.get 0 rfl) row84 rfl (by intro X h; cases h) rfl ?_; clear hE a; intro a hE
            replace hE := hE.cast 55 rfl (show _ = Value.agg ([[.int .i64 ((val ((bs.drop (69 * i)).take 1) : Nat) : Int)], [.int .i64 ((val ((bs.drop (69 * i + 1)).take 4) : Nat) : Int)], bv ((bs.drop (69 * i + 5)).take 64)] : List (List Value)).flatten.toArray from (by first | rfl | simp))
            refine s_call hE rfl Try.call61 (rmaywrite_c ((val ((bs.drop (69 * i)).take 1) : Nat) : Int) ((val ((bs.drop (69 * i + 1)).take 4) : Nat) : Int) ((bs.drop (69 * i + 5)).take 64) _ (by simp; omega)) rfl ?_
            rintro e w7 ⟨rfl, hN⟩
            refine ⟨_, rfl, trivial, ?_⟩; clear hE a; intro a hE
            replace hM : Mem _ _ w7 [_, _, _, _, _] := hM.call0 hN trivial; clear hN
            refine s_not hE rfl rfl ?_; clear hE a; intro a hE
            refine q_nil ?_
            replace hE : Env a 63 [(0, _), (1, _), (4, _), (5, _), (6, _), (7, _), (8, _), (9, _), (10, _), (16, _), (21, _), (24, _), (44, _), (57, _)] := hE.sel [0, 1, 4, 5, 6, 7, 8, 9, 10, 16, 21, 24, 44, 57] rfl
            refine hK19 _ _ ?_
            refine hE.split 57 rfl (fun hb57 hE' => ?_) (fun hb57 hE' => ?_)
            · replace hE := hE'; clear hE'
              replace hb57 := not_true hb57
              refine wp_cond_true (hE.eval rfl) ?_
              refine wp_seq_k (fun K20 hK20 => ?_)
              refine wp_plain [true, true] rfl rfl ?_
              refine s_assign hE rfl rfl ?_; clear hE a; intro a hE
              refine s_assign hE rfl rfl ?_; clear hE a; intro a hE
              refine q_nil ?_
              refine hK20 _ _ ?_
              refine wp_ret ?_
              refine q_then_r ?_
              refine q_block_r ?_
              refine q_then_r ?_
              refine q_then_r ?_
              refine q_block_r ?_
              refine q_then_r ?_
              refine f_ret2 hE rfl rfl rfl ?_
              replace hM := hM.addNil 66
              replace hM := hM.ownEq (m' := ([] : List Wr).length) (cs' := ([] : List Wr).flatMap wcl) rfl rfl
              exact ⟨_, (by first | rfl | (simp; done)), hM.pick [0] rfl⟩
            · replace hE := hE'; clear hE'
              replace hb57 := not_false' hb57
              have hst := gw_step hpre hb57
              refine wp_cond_false (hE.eval rfl) ?_
              refine wp_skip ?_
              refine hK18 _ _ ?_
              refine wp_plain [true, true, false, false, true] rfl rfl ?_
              refine s_move hE rfl rfl ?_; clear hE a; intro a hE
              refine s_loadN hE rfl (hM.get 0 rfl) row84 rfl (by intro X h; cases h) rfl ?_; clear hE a; intro a hE
              replace hE := hE.cast 59 rfl (show _ = Value.agg ([[.int .i64 ((val ((bs.drop (69 * i)).take 1) : Nat) : Int)], [.int .i64 ((val ((bs.drop (69 * i + 1)).take 4) : Nat) : Int)], bv ((bs.drop (69 * i + 5)).take 64)] : List (List Value)).flatten.toArray from (by first | rfl | simp))
              have hro60_0 : OkWr (((val ((bs.drop (69 * i)).take 1) : Nat) : Int), ((val ((bs.drop (69 * i + 1)).take 4) : Nat) : Int), (bs.drop (69 * i + 5)).take 64) := ⟨(by simp; omega), by unfold In64; simp only; omega, by unfold In64; simp only; omega⟩
              refine s_buildSlice (xs := [.tmp 59]) (([(((val ((bs.drop (69 * i)).take 1) : Nat) : Int), ((val ((bs.drop (69 * i + 1)).take 4) : Nat) : Int), (bs.drop (69 * i + 5)).take 64)] : List Wr).flatMap wcl) hE hM sl77 rfl rfl rfl (by intro v hv; simp only [List.mem_cons, List.not_mem_nil, or_false] at hv; rcases hv with rfl; exact wcl_len hro60_0.1) (by simp [Value.cells, wcl]) rfl rfl rfl ?_; clear hE a; intro a v60 w8 hE hM'
              clear hM; have hM := hM'; clear hM'
              replace hM := hM.ownEq (m' := ([(((val ((bs.drop (69 * i)).take 1) : Nat) : Int), ((val ((bs.drop (69 * i + 1)).take 4) : Nat) : Int), (bs.drop (69 * i + 5)).take 64)] : List Wr).length) (cs' := ([(((val ((bs.drop (69 * i)).take 1) : Nat) : Int), ((val ((bs.drop (69 * i + 1)).take 4) : Nat) : Int), (bs.drop (69 * i + 5)).take 64)] : List Wr).flatMap wcl) rfl rfl
              replace hM : Mem _ _ w8 [_, _, _, _, _, _] := hM.pick [4, 0, 1, 2, 3, 5] rfl
              obtain ⟨cq2, hq2⟩ := own_rd (hM.get 1 rfl)
              refine s_append hE rfl rfl hM sl77 (Src.rd Try.underlying77 hq2 (wcls_one _)) (len47 (by first | omega | (simp; omega))) (by first | omega | (simp; omega)) (by intro X h; cases h) rfl ?_; clear hE a; intro a v61 w9 hE hM'; clear hM; have hM := hM'; clear hM'
              replace hM := Mem.ownRowsL (f := wcl) (ls := wAts bs i) (ms := ([(((val ((bs.drop (69 * i)).take 1) : Nat) : Int), ((val ((bs.drop (69 * i + 1)).take 4) : Nat) : Int), (bs.drop (69 * i + 5)).take 64)] : List Wr)) hM rfl rfl
              replace hM : Mem _ _ w9 [_, _, _, _, _] := hM.pick [0, 2, 3, 4, 5] rfl
              refine s_assign hE rfl rfl ?_; clear hE a; intro a hE
              refine q_nil ?_
              replace hE : Env a 63 [(0, _), (1, _), (4, _), (5, _), (6, _), (7, _), (8, _), (9, _), (10, _), (16, _), (21, _), (24, _), (44, _), (57, _)] := hE.sel [0, 1, 4, 5, 6, 7, 8, 9, 10, 16, 21, 24, 44, 57] rfl
              refine q_block_n ?_
              refine hK11 _ _ ?_
              refine wp_plain [true, true, true] rfl rfl ?_
              refine s_move hE rfl rfl ?_; clear hE a; intro a hE
              refine s_bin hE rfl rfl (show Bin _ _ _ _ _ (.int .i64 ((i + 1 : Nat) : Int)) from bin_add (by rw [wrap_i64 (by omega) (by omega)]; omega)) rfl ?_; clear hE a; intro a hE
              refine s_assign hE rfl rfl ?_; clear hE a; intro a hE
              refine q_nil ?_
              replace hE : Env a 63 [(0, _), (1, _), (4, _), (5, _), (6, _), (7, _), (8, _), (9, _), (10, _), (16, _), (21, _), (24, _), (44, _), (57, _)] := hE.sel [0, 1, 4, 5, 6, 7, 8, 9, 10, 16, 21, 24, 44, 57] rfl
              replace hE := hE.cast 7 rfl (show _ = Value.int .i64 (((i + 1) : Nat) : Int) from (congrArg _ (by omega)))
              replace hM := Mem.ownRowsEq (f := wcl) (ls := (wAts bs i) ++ ([(((val ((bs.drop (69 * i)).take 1) : Nat) : Int), ((val ((bs.drop (69 * i + 1)).take 4) : Nat) : Int), (bs.drop (69 * i + 5)).take 64)] : List Wr)) (ms := wAts bs (i + 1)) hM ((wAts_succ _ _).symm)
              replace hM : Mem _ _ w9 [_, _] := hM.pick [0, 4] rfl
              exact ⟨i + 1, ⟨by omega, hst, _, hE.sel [0, 1, 4, 5, 6, 7, 16, 21] rfl, hM⟩, by omega⟩
        trivial
      trivial
    trivial
  · replace hE := hE'; clear hE'
    replace hb24 := of_decide_eq_false hb24
    replace hb24 : ¬ (i < n) := by omega
    obtain rfl : n = i := by omega
    exfalso; rw [hpre] at hall; cases hall
theorem pget_a (v : Value) (bs : List UInt8) (c : Nat) (z : Int) (w : World) (hr : (rd v 1 bs.length c (bv bs)).holds w) : Calls Try.prog 34 #[v, .int .i64 z] w fun e w' => ∃ v', e = .returned (.tuple #[v', .int .i64 ((gwE bs z : Nat) : Int)]) ∧ Mem w [] w' [own v' 66 (gwL bs z).length ((gwL bs z).flatMap wcl)] := by
  by_cases h1 : z < 0 ∨ 65536 < z
  · obtain ⟨e1, e2⟩ := gwv_lim (bs := bs) h1
    rw [e1, e2]
    exact pgw_lim v bs c z w hr h1
  obtain ⟨n, rfl⟩ := Int.eq_ofNat_of_zero_le (show 0 ≤ z by omega)
  by_cases hl : bs.length = 69 * n
  case neg =>
    obtain ⟨e1, e2⟩ := gwv_no (bs := bs) (n := n) (by omega) (gwOk_len hl)
    rw [e1, e2]
    exact pgw_len v bs c n w hr (by omega) hl
  cases hm : (wAts bs n).all mayW
  · obtain ⟨e1, e2⟩ := gwv_no (bs := bs) (n := n) (by omega) (gwOk_all hm)
    rw [e1, e2]
    exact pgw_bad v bs c n w hr (by omega) hl hm
  · obtain ⟨e1, e2⟩ := gwv_ok (bs := bs) (n := n) (by omega) hl hm
    rw [e1, e2]
    exact pgw_ok v bs c n w hr (by omega) hl hm
theorem rget_a (v : Value) (bs : List UInt8) (c : Nat) (z : Int) (w : World) (hr : (rd v 1 bs.length c (bv bs)).holds w) : Calls Try.prog 35 #[v, .int .i64 z] w fun e w' => ∃ v', e = .returned (.tuple #[v', .int .i64 ((gwE bs z : Nat) : Int)]) ∧ Mem w [] w' [own v' 66 (gwL bs z).length ((gwL bs z).flatMap wcl)] := by
  by_cases h1 : z < 0 ∨ 65536 < z
  · obtain ⟨e1, e2⟩ := gwv_lim (bs := bs) h1
    rw [e1, e2]
    exact rgw_lim v bs c z w hr h1
  obtain ⟨n, rfl⟩ := Int.eq_ofNat_of_zero_le (show 0 ≤ z by omega)
  by_cases hl : bs.length = 69 * n
  case neg =>
    obtain ⟨e1, e2⟩ := gwv_no (bs := bs) (n := n) (by omega) (gwOk_len hl)
    rw [e1, e2]
    exact rgw_len v bs c n w hr (by omega) hl
  cases hm : (wAts bs n).all mayW
  · obtain ⟨e1, e2⟩ := gwv_no (bs := bs) (n := n) (by omega) (gwOk_all hm)
    rw [e1, e2]
    exact rgw_bad v bs c n w hr (by omega) hl hm
  · obtain ⟨e1, e2⟩ := gwv_ok (bs := bs) (n := n) (by omega) hl hm
    rw [e1, e2]
    exact rgw_ok v bs c n w hr (by omega) hl hm
end Go.Proofs.Ytlieojojahhmmaa
