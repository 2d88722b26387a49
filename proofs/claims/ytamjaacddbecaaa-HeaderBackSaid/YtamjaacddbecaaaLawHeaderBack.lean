/- HeaderBack of casematelaw24 returns true for whatever header and sectors; they read behind the call as before. No condition. -/
import Derived.Test.YtamjaacddbecaaaLl
set_option linter.unusedSimpArgs false
set_option linter.unusedVariables false
namespace Go.Proofs.Ytamjaacddbecaaa
open Go Go.Kx
open Go.ChangeShapes Go.WideShapes Go.ChangeAt Go.RowKit
theorem eqa59 : ∀ {a b : List UInt8}, a.length = 64 → b.length = 64 → Bin Try.prog .eql 59 (.agg (bv a).toArray) (.agg (bv b).toArray) (.bool (decide (a = b))) ∧ Bin Try.prog .neq 59 (.agg (bv a).toArray) (.agg (bv b).toArray) (.bool (!decide (a = b))) := fun ha hb => bins_arr8 Try.underlying59 (by kernel_rfl) Try.underlying5 (by kernel_rfl) (by kernel_rfl) ha hb
set_option maxRecDepth 20000 in
set_option maxHeartbeats 2000000 in
theorem headerBack_c (h : Hd) (u : Value) (ls : List (List UInt8)) (lc : Nat) (w : World) (hr_ls : (rd u 64 ls.length lc (ls.flatMap bv)).holds w) (ho_ls : ∀ x, x ∈ ls → x.length = 64) (hk : OkHd h) : Calls Try.prog 5 #[.agg ([[.int .i64 h.m], [.int .i64 h.r], [.bool h.v0.1], [.int .u64 ((h.v0.2.1 : Nat) : Int)], bv h.v0.2.2.1, bv h.v0.2.2.2, [.bool h.v1.1], [.int .u64 ((h.v1.2.1 : Nat) : Int)], bv h.v1.2.2.1, bv h.v1.2.2.2, [.bool h.s0.1], [.int .i64 h.s0.2.1], bv h.s0.2.2.1, bv h.s0.2.2.2.1, bv h.s0.2.2.2.2, [.bool h.s1.1], [.int .i64 h.s1.2.1], bv h.s1.2.2.1, bv h.s1.2.2.2.1, bv h.s1.2.2.2.2, [.bool h.s2.1], [.int .i64 h.s2.2.1], bv h.s2.2.2.1, bv h.s2.2.2.2.1, bv h.s2.2.2.2.2, [.bool h.s3.1], [.int .i64 h.s3.2.1], bv h.s3.2.2.1, bv h.s3.2.2.2.1, bv h.s3.2.2.2.2] : List (List Value)).flatten.toArray, u] w fun e w' => e = .returned (.bool true) ∧ Mem w [] w' [] := by
  have hi0 := hk.s0.1
  have hi1 := hk.s1.1
  have hi2 := hk.s2.1
  have hi3 := hk.s3.1
  have hn0 := hk.v0.1
  have hn1 := hk.v1.1
  have hq20 : (ls.take (min ls.length 20)).length ≤ 20 := by rw [List.length_take]; omega
  have hM : Mem w [] w [rd u 64 ls.length lc (ls.flatMap bv)] := Mem.startR w (fun g hg => by
    simp only [List.mem_cons, List.not_mem_nil, or_false] at hg
    rcases hg with rfl
    · exact ⟨hr_ls, rfl⟩)
  refine f_enter 92 Try.func5 rfl rfl rfl ?_
  intro a hE
  replace hE : Env a 92 [(0, _), (1, _)] := hE
  refine wp_seq_k (fun K1 hK1 => ?_)
  refine wp_plain [false, true] rfl rfl ?_
  have hbl2_4 : h.v0.2.2.1.length = 32 := hk.v0.2.1
  have hbl2_5 : h.v0.2.2.2.length = 32 := hk.v0.2.2
  have hbl2_8 : h.v1.2.2.1.length = 32 := hk.v1.2.1
  have hbl2_9 : h.v1.2.2.2.length = 32 := hk.v1.2.2
  have hbl2_12 : h.s0.2.2.1.length = 16 := hk.s0.2.1
  have hbl2_13 : h.s0.2.2.2.1.length = 32 := hk.s0.2.2.1
  have hbl2_14 : h.s0.2.2.2.2.length = 32 := hk.s0.2.2.2
  have hbl2_17 : h.s1.2.2.1.length = 16 := hk.s1.2.1
  have hbl2_18 : h.s1.2.2.2.1.length = 32 := hk.s1.2.2.1
  have hbl2_19 : h.s1.2.2.2.2.length = 32 := hk.s1.2.2.2
  have hbl2_22 : h.s2.2.2.1.length = 16 := hk.s2.2.1
  have hbl2_23 : h.s2.2.2.2.1.length = 32 := hk.s2.2.2.1
  have hbl2_24 : h.s2.2.2.2.2.length = 32 := hk.s2.2.2.2
  have hbl2_27 : h.s3.2.2.1.length = 16 := hk.s3.2.1
  have hbl2_28 : h.s3.2.2.2.1.length = 32 := hk.s3.2.2.1
  have hbl2_29 : h.s3.2.2.2.2.length = 32 := hk.s3.2.2.2
  refine s_box (ss := [[.int .i64 h.m], [.int .i64 h.r], [.bool h.v0.1], [.int .u64 ((h.v0.2.1 : Nat) : Int)], bv h.v0.2.2.1, bv h.v0.2.2.2, [.bool h.v1.1], [.int .u64 ((h.v1.2.1 : Nat) : Int)], bv h.v1.2.2.1, bv h.v1.2.2.2, [.bool h.s0.1], [.int .i64 h.s0.2.1], bv h.s0.2.2.1, bv h.s0.2.2.2.1, bv h.s0.2.2.2.2, [.bool h.s1.1], [.int .i64 h.s1.2.1], bv h.s1.2.2.1, bv h.s1.2.2.2.1, bv h.s1.2.2.2.2, [.bool h.s2.1], [.int .i64 h.s2.2.1], bv h.s2.2.2.1, bv h.s2.2.2.2.1, bv h.s2.2.2.2.2, [.bool h.s3.1], [.int .i64 h.s3.2.1], bv h.s3.2.2.1, bv h.s3.2.2.2.1, bv h.s3.2.2.2.2]) [1, 1, 1, 1, 32, 32, 1, 1, 32, 32, 1, 1, 16, 32, 32, 1, 1, 16, 32, 32, 1, 1, 16, 32, 32, 1, 1, 16, 32, 32] hE hM rfl rfl (by simp only [List.map_cons, List.map_nil, bv_length, List.length_cons, List.length_nil, List.length_replicate, hbl2_4, hbl2_5, hbl2_8, hbl2_9, hbl2_12, hbl2_13, hbl2_14, hbl2_17, hbl2_18, hbl2_19, hbl2_22, hbl2_23, hbl2_24, hbl2_27, hbl2_28, hbl2_29]) rfl ?_; clear hE a; intro a b2 w1 hE hM'
  clear hM; have hM := hM'; clear hM'
  refine s_assign hE rfl rfl ?_; clear hE a; intro a hE
  refine q_nil ?_
  replace hE : Env a 92 [(1, _), (2, _), (4, _)] := hE.sel [1, 2, 4] rfl
  refine hK1 _ _ ?_
  refine wp_seq_k (fun K2 hK2 => ?_)
  refine wp_plain [true, true, true, true, true, true] rfl rfl ?_
  refine s_move hE rfl rfl ?_; clear hE a; intro a hE
  refine s_move hE rfl rfl ?_; clear hE a; intro a hE
  refine s_len hE rfl Try.underlying40 (rd_slice (hM.get 1 rfl)) rfl ?_; clear hE a; intro a hE
  refine s_min hE rfl rfl rfl ?_; clear hE a; intro a hE
  replace hE := hE.cast 17 rfl (show _ = Value.int .i64 ((min ls.length 20 : Nat) : Int) from congrArg (Value.int .i64) (by split <;> omega))
  have hcap18 := rd_len (hM.get 1 rfl)
  refine s_slice (l := 0) (h := min ls.length 20) (mx' := lc) hE rfl (hM.get 1 rfl) slt40 rfl ⟨_, rfl⟩ rfl (by simp) (Nat.zero_le _) (by first | omega | (simp; omega) | decide +kernel) (by first | omega | (simp; omega) | decide +kernel) (Nat.le_refl _) rfl ?_; clear hE a; intro a v18 hE hr18 hvb18
  replace hr18 := rd_takeR (f := bv) (ls := ls) (fun x hx => ((bv_length _).trans (ho_ls x hx))) (by first | omega | (simp; omega) | decide +kernel) hr18
  replace hM := hM.addPart 1 rfl hr18 hvb18; clear hr18
  refine s_assign hE rfl rfl ?_; clear hE a; intro a hE
  refine q_nil ?_
  replace hE : Env a 92 [(1, _), (2, _), (4, _)] := hE.sel [1, 2, 4] rfl
  refine hK2 _ _ ?_
  refine wp_seq_k (fun K3 hK3 => ?_)
  refine wp_plain [true, false, true, true, true, true, true] rfl rfl ?_
  refine s_loadN hE rfl (hM.get 1 rfl) row39 rfl (by intro X h; cases h) rfl ?_; clear hE a; intro a hE
  replace hE := hE.cast 20 rfl (show _ = Value.agg ([[.int .i64 h.m], [.int .i64 h.r], [.bool h.v0.1], [.int .u64 ((h.v0.2.1 : Nat) : Int)], bv h.v0.2.2.1, bv h.v0.2.2.2, [.bool h.v1.1], [.int .u64 ((h.v1.2.1 : Nat) : Int)], bv h.v1.2.2.1, bv h.v1.2.2.2, [.bool h.s0.1], [.int .i64 h.s0.2.1], bv h.s0.2.2.1, bv h.s0.2.2.2.1, bv h.s0.2.2.2.2, [.bool h.s1.1], [.int .i64 h.s1.2.1], bv h.s1.2.2.1, bv h.s1.2.2.2.1, bv h.s1.2.2.2.2, [.bool h.s2.1], [.int .i64 h.s2.2.1], bv h.s2.2.2.1, bv h.s2.2.2.2.1, bv h.s2.2.2.2.2, [.bool h.s3.1], [.int .i64 h.s3.2.1], bv h.s3.2.2.1, bv h.s3.2.2.2.1, bv h.s3.2.2.2.2] : List (List Value)).flatten.toArray from (by first | rfl | simp only [List.flatten_cons, List.flatten_nil, List.append_nil, List.append_assoc]))
  refine s_call hE rfl Try.call8 (hput_a h _ hk ) rfl ?_
  rintro e w2 ⟨v21_0, rfl, hN⟩
  refine ⟨_, rfl, trivial, ?_⟩; clear hE a; intro a hE
  replace hM : Mem _ _ w2 [_, _, _, _] := hM.call0 hN ⟨rfl, trivial⟩; clear hN
  refine s_move hE rfl rfl ?_; clear hE a; intro a hE
  refine s_extract hE rfl rfl rfl ?_; clear hE a; intro a hE
  refine s_extract hE rfl rfl rfl ?_; clear hE a; intro a hE
  refine s_assign hE rfl rfl ?_; clear hE a; intro a hE
  refine s_assign hE rfl rfl ?_; clear hE a; intro a hE
  refine q_nil ?_
  replace hE : Env a 92 [(1, _), (2, _), (4, _), (5, _), (6, _)] := hE.sel [1, 2, 4, 5, 6] rfl
  refine hK3 _ _ ?_
  refine wp_seq_k (fun K4 hK4 => ?_)
  refine wp_seq_k (fun K5 hK5 => ?_)
  refine wp_plain [true, true, true, false, true, true] rfl rfl ?_
  refine s_move hE rfl rfl ?_; clear hE a; intro a hE
  refine s_bin hE rfl rfl bin_eql rfl ?_; clear hE a; intro a hE
  refine s_loadN hE rfl (hM.get 2 rfl) row39 rfl (by intro X h; cases h) rfl ?_; clear hE a; intro a hE
  replace hE := hE.cast 26 rfl (show _ = Value.agg ([[.int .i64 h.m], [.int .i64 h.r], [.bool h.v0.1], [.int .u64 ((h.v0.2.1 : Nat) : Int)], bv h.v0.2.2.1, bv h.v0.2.2.2, [.bool h.v1.1], [.int .u64 ((h.v1.2.1 : Nat) : Int)], bv h.v1.2.2.1, bv h.v1.2.2.2, [.bool h.s0.1], [.int .i64 h.s0.2.1], bv h.s0.2.2.1, bv h.s0.2.2.2.1, bv h.s0.2.2.2.2, [.bool h.s1.1], [.int .i64 h.s1.2.1], bv h.s1.2.2.1, bv h.s1.2.2.2.1, bv h.s1.2.2.2.2, [.bool h.s2.1], [.int .i64 h.s2.2.1], bv h.s2.2.2.1, bv h.s2.2.2.2.1, bv h.s2.2.2.2.2, [.bool h.s3.1], [.int .i64 h.s3.2.1], bv h.s3.2.2.1, bv h.s3.2.2.2.1, bv h.s3.2.2.2.2] : List (List Value)).flatten.toArray from (by first | rfl | simp only [List.flatten_cons, List.flatten_nil, List.append_nil, List.append_assoc]))
  refine s_call hE rfl Try.call10 (check_c h _ hk ) rfl ?_
  rintro e w3 ⟨rfl, hN⟩
  refine ⟨_, rfl, trivial, ?_⟩; clear hE a; intro a hE
  replace hM : Mem _ _ w3 [_, _, _, _] := hM.call0 hN trivial; clear hN
  refine s_bin hE rfl rfl bin_eql rfl ?_; clear hE a; intro a hE
  refine s_bin hE rfl rfl (bins_bool Try.underlying4).2 rfl ?_; clear hE a; intro a hE
  refine q_nil ?_
  replace hE : Env a 92 [(1, _), (2, _), (4, _), (5, _), (6, _), (29, _)] := hE.sel [1, 2, 4, 5, 6, 29] rfl
  refine hK5 _ _ ?_
  replace hE := hE.cast 29 rfl (show _ = Value.bool false from (congrArg Value.bool (by first | rfl | simp)))
  refine wp_cond_false (hE.eval rfl) ?_
  refine wp_skip ?_
  refine hK4 _ _ ?_
  refine wp_seq_k (fun K6 hK6 => ?_)
  refine wp_seq_k (fun K7 hK7 => ?_)
  refine wp_plain [true, true] rfl rfl ?_
  refine s_move hE rfl rfl ?_; clear hE a; intro a hE
  refine s_bin hE rfl rfl bin_eql rfl ?_; clear hE a; intro a hE
  refine q_nil ?_
  replace hE : Env a 92 [(1, _), (2, _), (4, _), (5, _), (6, _), (29, _), (31, _)] := hE.sel [1, 2, 4, 5, 6, 29, 31] rfl
  refine hK7 _ _ ?_
  refine hE.split 31 rfl (fun hb31 hE' => ?_) (fun hb31 hE' => ?_)
  · replace hE := hE'; clear hE'
    replace hb31 := of_decide_eq_true hb31
    replace hb31 : (checkH h) = 0 := by omega
    refine wp_cond_true (hE.eval rfl) ?_
    refine wp_seq_k (fun K8 hK8 => ?_)
    refine wp_plain [true, false, true, true, true, false, false, true] rfl rfl ?_
    refine s_move hE rfl rfl ?_; clear hE a; intro a hE
    obtain ⟨cq1, hq1⟩ := own_rd (hM.get 0 rfl)
    obtain ⟨hpg, hpe, hp8⟩ := put_get hk hb31
    refine s_call hE rfl Try.call14 (hget_put h _ _ _ hk hb31 hq1) rfl ?_
    rintro e w4 ⟨rfl, hN⟩
    refine ⟨_, rfl, trivial, ?_⟩; clear hE a; intro a hE
    replace hM : Mem _ _ w4 [_, _, _, _] := hM.call0 hN trivial; clear hN
    refine s_move hE rfl rfl ?_; clear hE a; intro a hE
    refine s_extract hE rfl rfl rfl ?_; clear hE a; intro a hE
    refine s_extract hE rfl rfl rfl ?_; clear hE a; intro a hE
    refine s_alloc [1, 1, 1, 1, 32, 32, 1, 1, 32, 32, 1, 1, 16, 32, 32, 1, 1, 16, 32, 32, 1, 1, 16, 32, 32, 1, 1, 16, 32, 32] hE hM zeroL39 rfl rfl ?_; clear hE a; intro a b7 w5 hE hM'
    clear hM; have hM := hM'; clear hM'
    have hsl116_4 : h.v0.2.2.1.length = 32 := hk.v0.2.1
    have hsl116_5 : h.v0.2.2.2.length = 32 := hk.v0.2.2
    have hsl116_8 : h.v1.2.2.1.length = 32 := hk.v1.2.1
    have hsl116_9 : h.v1.2.2.2.length = 32 := hk.v1.2.2
    have hsl116_12 : h.s0.2.2.1.length = 16 := hk.s0.2.1
    have hsl116_13 : h.s0.2.2.2.1.length = 32 := hk.s0.2.2.1
    have hsl116_14 : h.s0.2.2.2.2.length = 32 := hk.s0.2.2.2
    have hsl116_17 : h.s1.2.2.1.length = 16 := hk.s1.2.1
    have hsl116_18 : h.s1.2.2.2.1.length = 32 := hk.s1.2.2.1
    have hsl116_19 : h.s1.2.2.2.2.length = 32 := hk.s1.2.2.2
    have hsl116_22 : h.s2.2.2.1.length = 16 := hk.s2.2.1
    have hsl116_23 : h.s2.2.2.2.1.length = 32 := hk.s2.2.2.1
    have hsl116_24 : h.s2.2.2.2.2.length = 32 := hk.s2.2.2.2
    have hsl116_27 : h.s3.2.2.1.length = 16 := hk.s3.2.1
    have hsl116_28 : h.s3.2.2.2.1.length = 32 := hk.s3.2.2.1
    have hsl116_29 : h.s3.2.2.2.2.length = 32 := hk.s3.2.2.2
    refine s_storeSegs 0 30 (vss := [[.int .i64 h.m], [.int .i64 h.r], [.bool h.v0.1], [.int .u64 ((h.v0.2.1 : Nat) : Int)], bv h.v0.2.2.1, bv h.v0.2.2.2, [.bool h.v1.1], [.int .u64 ((h.v1.2.1 : Nat) : Int)], bv h.v1.2.2.1, bv h.v1.2.2.2, [.bool h.s0.1], [.int .i64 h.s0.2.1], bv h.s0.2.2.1, bv h.s0.2.2.2.1, bv h.s0.2.2.2.2, [.bool h.s1.1], [.int .i64 h.s1.2.1], bv h.s1.2.2.1, bv h.s1.2.2.2.1, bv h.s1.2.2.2.2, [.bool h.s2.1], [.int .i64 h.s2.2.1], bv h.s2.2.2.1, bv h.s2.2.2.2.1, bv h.s2.2.2.2.2, [.bool h.s3.1], [.int .i64 h.s3.2.1], bv h.s3.2.2.1, bv h.s3.2.2.2.1, bv h.s3.2.2.2.2]) hE rfl rfl hM rfl sz39 (by simp only [List.take_succ_cons, List.take_zero, List.drop_zero, List.drop_succ_cons]; simp only [List.map_cons, List.map_nil, bv_length, List.length_cons, List.length_nil, List.length_replicate, hsl116_4, hsl116_5, hsl116_8, hsl116_9, hsl116_12, hsl116_13, hsl116_14, hsl116_17, hsl116_18, hsl116_19, hsl116_22, hsl116_23, hsl116_24, hsl116_27, hsl116_28, hsl116_29]) (by decide) rfl (one_fl ⟨one1 rfl, one1 rfl, one1 rfl, one1 rfl, bv_one _, bv_one _, one1 rfl, one1 rfl, bv_one _, bv_one _, one1 rfl, one1 rfl, bv_one _, bv_one _, bv_one _, one1 rfl, one1 rfl, bv_one _, bv_one _, bv_one _, one1 rfl, one1 rfl, bv_one _, bv_one _, bv_one _, one1 rfl, one1 rfl, bv_one _, bv_one _, bv_one _, trivial⟩) rfl (by intro X h; cases h) ?_; intro w6 hM'; clear hM; have hM := hM'; clear hM'
    try simp only [List.take_zero, List.take_succ_cons, List.drop_zero, List.drop_succ_cons, List.take_nil, List.drop_nil, List.nil_append, List.append_nil, List.cons_append] at hM
    refine s_assign hE rfl rfl ?_; clear hE a; intro a hE
    refine q_nil ?_
    replace hE : Env a 92 [(1, _), (2, _), (4, _), (5, _), (6, _), (7, _), (8, _), (29, _), (31, _)] := hE.sel [1, 2, 4, 5, 6, 7, 8, 29, 31] rfl
    refine hK8 _ _ ?_
    refine wp_seq_k (fun K9 hK9 => ?_)
    refine wp_plain [true, true, true, true, true, true, true, true, true, true, true, true] rfl rfl ?_
    refine s_move hE rfl rfl ?_; clear hE a; intro a hE
    refine s_bin hE rfl rfl bin_neq rfl ?_; clear hE a; intro a hE
    replace hE := hE.cast 38 rfl (show _ = Value.bool false from (congrArg Value.bool (by decide)))
    refine s_move hE rfl rfl ?_; clear hE a; intro a hE
    refine g_yes hE rfl rfl ?_
    refine s_loadN hE rfl (hM.get 0 rfl) row39 rfl (by intro X h; cases h) rfl ?_; clear hE a; intro a hE
    replace hE := hE.cast 40 rfl (show _ = Value.agg ([[.int .i64 h.m], [.int .i64 h.r], [.bool h.v0.1], [.int .u64 ((h.v0.2.1 : Nat) : Int)], bv h.v0.2.2.1, bv h.v0.2.2.2, [.bool h.v1.1], [.int .u64 ((h.v1.2.1 : Nat) : Int)], bv h.v1.2.2.1, bv h.v1.2.2.2, [.bool h.s0.1], [.int .i64 h.s0.2.1], bv h.s0.2.2.1, bv h.s0.2.2.2.1, bv h.s0.2.2.2.2, [.bool h.s1.1], [.int .i64 h.s1.2.1], bv h.s1.2.2.1, bv h.s1.2.2.2.1, bv h.s1.2.2.2.2, [.bool h.s2.1], [.int .i64 h.s2.2.1], bv h.s2.2.2.1, bv h.s2.2.2.2.1, bv h.s2.2.2.2.2, [.bool h.s3.1], [.int .i64 h.s3.2.1], bv h.s3.2.2.1, bv h.s3.2.2.2.1, bv h.s3.2.2.2.2] : List (List Value)).flatten.toArray from (by first | rfl | simp only [List.flatten_cons, List.flatten_nil, List.append_nil, List.append_assoc]))
    refine g_yes hE rfl rfl ?_
    refine s_loadN hE rfl (hM.get 3 rfl) row39 rfl (by intro X h; cases h) rfl ?_; clear hE a; intro a hE
    replace hE := hE.cast 41 rfl (show _ = Value.agg ([[.int .i64 h.m], [.int .i64 h.r], [.bool h.v0.1], [.int .u64 ((h.v0.2.1 : Nat) : Int)], bv h.v0.2.2.1, bv h.v0.2.2.2, [.bool h.v1.1], [.int .u64 ((h.v1.2.1 : Nat) : Int)], bv h.v1.2.2.1, bv h.v1.2.2.2, [.bool h.s0.1], [.int .i64 h.s0.2.1], bv h.s0.2.2.1, bv h.s0.2.2.2.1, bv h.s0.2.2.2.2, [.bool h.s1.1], [.int .i64 h.s1.2.1], bv h.s1.2.2.1, bv h.s1.2.2.2.1, bv h.s1.2.2.2.2, [.bool h.s2.1], [.int .i64 h.s2.2.1], bv h.s2.2.2.1, bv h.s2.2.2.2.1, bv h.s2.2.2.2.2, [.bool h.s3.1], [.int .i64 h.s3.2.1], bv h.s3.2.2.1, bv h.s3.2.2.2.1, bv h.s3.2.2.2.2] : List (List Value)).flatten.toArray from (by first | rfl | simp only [List.flatten_cons, List.flatten_nil, List.append_nil, List.append_assoc]))
    refine g_yes hE rfl rfl ?_
    refine s_bin hE rfl rfl ((eqk39 (b := decide ((h.m : Int) = h.m ∧ (h.r : Int) = h.r ∧ h.v0.1 = h.v0.1 ∧ (((h.v0.2.1 : Nat) : Int) : Int) = ((h.v0.2.1 : Nat) : Int) ∧ h.v0.2.2.1 = h.v0.2.2.1 ∧ h.v0.2.2.2 = h.v0.2.2.2 ∧ h.v1.1 = h.v1.1 ∧ (((h.v1.2.1 : Nat) : Int) : Int) = ((h.v1.2.1 : Nat) : Int) ∧ h.v1.2.2.1 = h.v1.2.2.1 ∧ h.v1.2.2.2 = h.v1.2.2.2 ∧ h.s0.1 = h.s0.1 ∧ (h.s0.2.1 : Int) = h.s0.2.1 ∧ h.s0.2.2.1 = h.s0.2.2.1 ∧ h.s0.2.2.2.1 = h.s0.2.2.2.1 ∧ h.s0.2.2.2.2 = h.s0.2.2.2.2 ∧ h.s1.1 = h.s1.1 ∧ (h.s1.2.1 : Int) = h.s1.2.1 ∧ h.s1.2.2.1 = h.s1.2.2.1 ∧ h.s1.2.2.2.1 = h.s1.2.2.2.1 ∧ h.s1.2.2.2.2 = h.s1.2.2.2.2 ∧ h.s2.1 = h.s2.1 ∧ (h.s2.2.1 : Int) = h.s2.2.1 ∧ h.s2.2.2.1 = h.s2.2.2.1 ∧ h.s2.2.2.2.1 = h.s2.2.2.2.1 ∧ h.s2.2.2.2.2 = h.s2.2.2.2.2 ∧ h.s3.1 = h.s3.1 ∧ (h.s3.2.1 : Int) = h.s3.2.1 ∧ h.s3.2.2.1 = h.s3.2.2.1 ∧ h.s3.2.2.2.1 = h.s3.2.2.2.1 ∧ h.s3.2.2.2.2 = h.s3.2.2.2.2)) (klL39 (k := 0) (x0 := h.m) (x1 := h.r) (x2 := h.v0.1) (x3 := ((h.v0.2.1 : Nat) : Int)) (x4 := h.v0.2.2.1) (x5 := h.v0.2.2.2) (x6 := h.v1.1) (x7 := ((h.v1.2.1 : Nat) : Int)) (x8 := h.v1.2.2.1) (x9 := h.v1.2.2.2) (x10 := h.s0.1) (x11 := h.s0.2.1) (x12 := h.s0.2.2.1) (x13 := h.s0.2.2.2.1) (x14 := h.s0.2.2.2.2) (x15 := h.s1.1) (x16 := h.s1.2.1) (x17 := h.s1.2.2.1) (x18 := h.s1.2.2.2.1) (x19 := h.s1.2.2.2.2) (x20 := h.s2.1) (x21 := h.s2.2.1) (x22 := h.s2.2.2.1) (x23 := h.s2.2.2.2.1) (x24 := h.s2.2.2.2.2) (x25 := h.s3.1) (x26 := h.s3.2.1) (x27 := h.s3.2.2.1) (x28 := h.s3.2.2.2.1) (x29 := h.s3.2.2.2.2) (wf_i64 hk.m) (wf_i64 hk.r) (wf_u64 hk.v0.1) hk.v0.2.1 hk.v0.2.2 (wf_u64 hk.v1.1) hk.v1.2.1 hk.v1.2.2 (wf_i64 hk.s0.1) hk.s0.2.1 hk.s0.2.2.1 hk.s0.2.2.2 (wf_i64 hk.s1.1) hk.s1.2.1 hk.s1.2.2.1 hk.s1.2.2.2 (wf_i64 hk.s2.1) hk.s2.2.1 hk.s2.2.2.1 hk.s2.2.2.2 (wf_i64 hk.s3.1) hk.s3.2.1 hk.s3.2.2.1 hk.s3.2.2.2) (klL39 (k := 0) (x0 := h.m) (x1 := h.r) (x2 := h.v0.1) (x3 := ((h.v0.2.1 : Nat) : Int)) (x4 := h.v0.2.2.1) (x5 := h.v0.2.2.2) (x6 := h.v1.1) (x7 := ((h.v1.2.1 : Nat) : Int)) (x8 := h.v1.2.2.1) (x9 := h.v1.2.2.2) (x10 := h.s0.1) (x11 := h.s0.2.1) (x12 := h.s0.2.2.1) (x13 := h.s0.2.2.2.1) (x14 := h.s0.2.2.2.2) (x15 := h.s1.1) (x16 := h.s1.2.1) (x17 := h.s1.2.2.1) (x18 := h.s1.2.2.2.1) (x19 := h.s1.2.2.2.2) (x20 := h.s2.1) (x21 := h.s2.2.1) (x22 := h.s2.2.2.1) (x23 := h.s2.2.2.2.1) (x24 := h.s2.2.2.2.2) (x25 := h.s3.1) (x26 := h.s3.2.1) (x27 := h.s3.2.2.1) (x28 := h.s3.2.2.2.1) (x29 := h.s3.2.2.2.2) (wf_i64 hk.m) (wf_i64 hk.r) (wf_u64 hk.v0.1) hk.v0.2.1 hk.v0.2.2 (wf_u64 hk.v1.1) hk.v1.2.1 hk.v1.2.2 (wf_i64 hk.s0.1) hk.s0.2.1 hk.s0.2.2.1 hk.s0.2.2.2 (wf_i64 hk.s1.1) hk.s1.2.1 hk.s1.2.2.1 hk.s1.2.2.2 (wf_i64 hk.s2.1) hk.s2.2.1 hk.s2.2.2.1 hk.s2.2.2.2 (wf_i64 hk.s3.1) hk.s3.2.1 hk.s3.2.2.1 hk.s3.2.2.2) (by rw [flat_eq (by have hl_x4 : h.v0.2.2.1.length = 32 := hk.v0.2.1; have hl_x5 : h.v0.2.2.2.length = 32 := hk.v0.2.2; have hl_x8 : h.v1.2.2.1.length = 32 := hk.v1.2.1; have hl_x9 : h.v1.2.2.2.length = 32 := hk.v1.2.2; have hl_x12 : h.s0.2.2.1.length = 16 := hk.s0.2.1; have hl_x13 : h.s0.2.2.2.1.length = 32 := hk.s0.2.2.1; have hl_x14 : h.s0.2.2.2.2.length = 32 := hk.s0.2.2.2; have hl_x17 : h.s1.2.2.1.length = 16 := hk.s1.2.1; have hl_x18 : h.s1.2.2.2.1.length = 32 := hk.s1.2.2.1; have hl_x19 : h.s1.2.2.2.2.length = 32 := hk.s1.2.2.2; have hl_x22 : h.s2.2.2.1.length = 16 := hk.s2.2.1; have hl_x23 : h.s2.2.2.2.1.length = 32 := hk.s2.2.2.1; have hl_x24 : h.s2.2.2.2.2.length = 32 := hk.s2.2.2.2; have hl_x27 : h.s3.2.2.1.length = 16 := hk.s3.2.1; have hl_x28 : h.s3.2.2.2.1.length = 32 := hk.s3.2.2.1; have hl_x29 : h.s3.2.2.2.2.length = 32 := hk.s3.2.2.2; have hl_y4 : h.v0.2.2.1.length = 32 := hk.v0.2.1; have hl_y5 : h.v0.2.2.2.length = 32 := hk.v0.2.2; have hl_y8 : h.v1.2.2.1.length = 32 := hk.v1.2.1; have hl_y9 : h.v1.2.2.2.length = 32 := hk.v1.2.2; have hl_y12 : h.s0.2.2.1.length = 16 := hk.s0.2.1; have hl_y13 : h.s0.2.2.2.1.length = 32 := hk.s0.2.2.1; have hl_y14 : h.s0.2.2.2.2.length = 32 := hk.s0.2.2.2; have hl_y17 : h.s1.2.2.1.length = 16 := hk.s1.2.1; have hl_y18 : h.s1.2.2.2.1.length = 32 := hk.s1.2.2.1; have hl_y19 : h.s1.2.2.2.2.length = 32 := hk.s1.2.2.2; have hl_y22 : h.s2.2.2.1.length = 16 := hk.s2.2.1; have hl_y23 : h.s2.2.2.2.1.length = 32 := hk.s2.2.2.1; have hl_y24 : h.s2.2.2.2.2.length = 32 := hk.s2.2.2.2; have hl_y27 : h.s3.2.2.1.length = 16 := hk.s3.2.1; have hl_y28 : h.s3.2.2.2.1.length = 32 := hk.s3.2.2.1; have hl_y29 : h.s3.2.2.2.2.length = 32 := hk.s3.2.2.2; simp only [List.map_cons, List.map_nil, bv_length, List.length_cons, List.length_nil, hl_x4, hl_x5, hl_x8, hl_x9, hl_x12, hl_x13, hl_x14, hl_x17, hl_x18, hl_x19, hl_x22, hl_x23, hl_x24, hl_x27, hl_x28, hl_x29, hl_y4, hl_y5, hl_y8, hl_y9, hl_y12, hl_y13, hl_y14, hl_y17, hl_y18, hl_y19, hl_y22, hl_y23, hl_y24, hl_y27, hl_y28, hl_y29])]; simp [bv_iff, Int.ofNat_inj]; try omega)).2) rfl ?_; clear hE a; intro a hE
    refine s_pickf hE rfl rfl rfl ?_; clear hE a; intro a hE
    refine s_move hE rfl rfl ?_; clear hE a; intro a hE
    replace hE := hE.cast 44 rfl (show _ = Value.bool false from (congrArg Value.bool (by first | rfl | simp)))
    refine g_yes hE rfl rfl ?_
    refine s_move hE rfl rfl ?_; clear hE a; intro a hE
    refine g_yes hE rfl rfl ?_
    refine s_len hE rfl Try.underlying40 (own_slice (hM.get 1 rfl)) rfl ?_; clear hE a; intro a hE
    refine g_yes hE rfl rfl ?_
    refine s_bin hE rfl rfl bin_neq rfl ?_; clear hE a; intro a hE
    refine s_pickf hE rfl rfl rfl ?_; clear hE a; intro a hE
    refine q_nil ?_
    replace hE : Env a 92 [(1, _), (2, _), (4, _), (5, _), (6, _), (7, _), (29, _), (31, _), (48, _)] := hE.sel [1, 2, 4, 5, 6, 7, 29, 31, 48] rfl
    refine hK9 _ _ ?_
    replace hE := hE.cast 48 rfl (show _ = Value.bool false from (congrArg Value.bool (by first | rfl | (rw [decide_eq_true (by omega)]; rfl) | (simp [hp8]; done))))
    refine wp_cond_false (hE.eval rfl) ?_
    refine wp_skip ?_
    refine hK6 _ _ ?_
    refine wp_seq_k (fun K10 hK10 => ?_)
    refine wp_plain [true, false, true, true, true, false, false, true] rfl rfl ?_
    refine s_move hE rfl rfl ?_; clear hE a; intro a hE
    refine s_call hE rfl Try.call14 (hget_a _ (ls.take (min ls.length 20)) _ _ (hM.get 2 rfl) (ok_take ho_ls) (by simp; omega)) rfl ?_
    rintro e w7 ⟨rfl, hN⟩
    refine ⟨_, rfl, trivial, ?_⟩; clear hE a; intro a hE
    replace hM : Mem _ _ w7 [_, _, _, _, _] := hM.call0 hN trivial; clear hN
    refine s_move hE rfl rfl ?_; clear hE a; intro a hE
    refine s_extract hE rfl rfl rfl ?_; clear hE a; intro a hE
    refine s_extract hE rfl rfl rfl ?_; clear hE a; intro a hE
    refine s_alloc [1, 1, 1, 1, 32, 32, 1, 1, 32, 32, 1, 1, 16, 32, 32, 1, 1, 16, 32, 32, 1, 1, 16, 32, 32, 1, 1, 16, 32, 32] hE hM zeroL39 rfl rfl ?_; clear hE a; intro a b9 w8 hE hM'
    clear hM; have hM := hM'; clear hM'
    have hsl181_4 : ((getHH (ls.take (min ls.length 20))).v0.2.2.1).length = 32 := (getHH_ok (ok_take ho_ls)).v0.2.1
    have hsl181_5 : ((getHH (ls.take (min ls.length 20))).v0.2.2.2).length = 32 := (getHH_ok (ok_take ho_ls)).v0.2.2
    have hsl181_8 : ((getHH (ls.take (min ls.length 20))).v1.2.2.1).length = 32 := (getHH_ok (ok_take ho_ls)).v1.2.1
    have hsl181_9 : ((getHH (ls.take (min ls.length 20))).v1.2.2.2).length = 32 := (getHH_ok (ok_take ho_ls)).v1.2.2
    have hsl181_12 : ((getHH (ls.take (min ls.length 20))).s0.2.2.1).length = 16 := (getHH_ok (ok_take ho_ls)).s0.2.1
    have hsl181_13 : ((getHH (ls.take (min ls.length 20))).s0.2.2.2.1).length = 32 := (getHH_ok (ok_take ho_ls)).s0.2.2.1
    have hsl181_14 : ((getHH (ls.take (min ls.length 20))).s0.2.2.2.2).length = 32 := (getHH_ok (ok_take ho_ls)).s0.2.2.2
    have hsl181_17 : ((getHH (ls.take (min ls.length 20))).s1.2.2.1).length = 16 := (getHH_ok (ok_take ho_ls)).s1.2.1
    have hsl181_18 : ((getHH (ls.take (min ls.length 20))).s1.2.2.2.1).length = 32 := (getHH_ok (ok_take ho_ls)).s1.2.2.1
    have hsl181_19 : ((getHH (ls.take (min ls.length 20))).s1.2.2.2.2).length = 32 := (getHH_ok (ok_take ho_ls)).s1.2.2.2
    have hsl181_22 : ((getHH (ls.take (min ls.length 20))).s2.2.2.1).length = 16 := (getHH_ok (ok_take ho_ls)).s2.2.1
    have hsl181_23 : ((getHH (ls.take (min ls.length 20))).s2.2.2.2.1).length = 32 := (getHH_ok (ok_take ho_ls)).s2.2.2.1
    have hsl181_24 : ((getHH (ls.take (min ls.length 20))).s2.2.2.2.2).length = 32 := (getHH_ok (ok_take ho_ls)).s2.2.2.2
    have hsl181_27 : ((getHH (ls.take (min ls.length 20))).s3.2.2.1).length = 16 := (getHH_ok (ok_take ho_ls)).s3.2.1
    have hsl181_28 : ((getHH (ls.take (min ls.length 20))).s3.2.2.2.1).length = 32 := (getHH_ok (ok_take ho_ls)).s3.2.2.1
    have hsl181_29 : ((getHH (ls.take (min ls.length 20))).s3.2.2.2.2).length = 32 := (getHH_ok (ok_take ho_ls)).s3.2.2.2
    refine s_storeSegs 0 30 (vss := [[.int .i64 ((getHH (ls.take (min ls.length 20))).m)], [.int .i64 ((getHH (ls.take (min ls.length 20))).r)], [.bool ((getHH (ls.take (min ls.length 20))).v0.1)], [.int .u64 (((getHH (ls.take (min ls.length 20))).v0.2.1 : Nat) : Int)], bv ((getHH (ls.take (min ls.length 20))).v0.2.2.1), bv ((getHH (ls.take (min ls.length 20))).v0.2.2.2), [.bool ((getHH (ls.take (min ls.length 20))).v1.1)], [.int .u64 (((getHH (ls.take (min ls.length 20))).v1.2.1 : Nat) : Int)], bv ((getHH (ls.take (min ls.length 20))).v1.2.2.1), bv ((getHH (ls.take (min ls.length 20))).v1.2.2.2), [.bool ((getHH (ls.take (min ls.length 20))).s0.1)], [.int .i64 ((getHH (ls.take (min ls.length 20))).s0.2.1)], bv ((getHH (ls.take (min ls.length 20))).s0.2.2.1), bv ((getHH (ls.take (min ls.length 20))).s0.2.2.2.1), bv ((getHH (ls.take (min ls.length 20))).s0.2.2.2.2), [.bool ((getHH (ls.take (min ls.length 20))).s1.1)], [.int .i64 ((getHH (ls.take (min ls.length 20))).s1.2.1)], bv ((getHH (ls.take (min ls.length 20))).s1.2.2.1), bv ((getHH (ls.take (min ls.length 20))).s1.2.2.2.1), bv ((getHH (ls.take (min ls.length 20))).s1.2.2.2.2), [.bool ((getHH (ls.take (min ls.length 20))).s2.1)], [.int .i64 ((getHH (ls.take (min ls.length 20))).s2.2.1)], bv ((getHH (ls.take (min ls.length 20))).s2.2.2.1), bv ((getHH (ls.take (min ls.length 20))).s2.2.2.2.1), bv ((getHH (ls.take (min ls.length 20))).s2.2.2.2.2), [.bool ((getHH (ls.take (min ls.length 20))).s3.1)], [.int .i64 ((getHH (ls.take (min ls.length 20))).s3.2.1)], bv ((getHH (ls.take (min ls.length 20))).s3.2.2.1), bv ((getHH (ls.take (min ls.length 20))).s3.2.2.2.1), bv ((getHH (ls.take (min ls.length 20))).s3.2.2.2.2)]) hE rfl rfl hM rfl sz39 (by simp only [List.take_succ_cons, List.take_zero, List.drop_zero, List.drop_succ_cons]; simp only [List.map_cons, List.map_nil, bv_length, List.length_cons, List.length_nil, List.length_replicate, hsl181_4, hsl181_5, hsl181_8, hsl181_9, hsl181_12, hsl181_13, hsl181_14, hsl181_17, hsl181_18, hsl181_19, hsl181_22, hsl181_23, hsl181_24, hsl181_27, hsl181_28, hsl181_29]) (by decide) rfl (one_fl ⟨one1 rfl, one1 rfl, one1 rfl, one1 rfl, bv_one _, bv_one _, one1 rfl, one1 rfl, bv_one _, bv_one _, one1 rfl, one1 rfl, bv_one _, bv_one _, bv_one _, one1 rfl, one1 rfl, bv_one _, bv_one _, bv_one _, one1 rfl, one1 rfl, bv_one _, bv_one _, bv_one _, one1 rfl, one1 rfl, bv_one _, bv_one _, bv_one _, trivial⟩) rfl (by intro X h; cases h) ?_; intro w9 hM'; clear hM; have hM := hM'; clear hM'
    try simp only [List.take_zero, List.take_succ_cons, List.drop_zero, List.drop_succ_cons, List.take_nil, List.drop_nil, List.nil_append, List.append_nil, List.cons_append] at hM
    refine s_assign hE rfl rfl ?_; clear hE a; intro a hE
    refine q_nil ?_
    replace hE : Env a 92 [(1, _), (2, _), (4, _), (5, _), (6, _), (7, _), (9, _), (10, _), (29, _), (31, _), (48, _)] := hE.sel [1, 2, 4, 5, 6, 7, 9, 10, 29, 31, 48] rfl
    refine hK10 _ _ ?_
    refine wp_seq_k (fun K11 hK11 => ?_)
    refine wp_seq_k (fun K12 hK12 => ?_)
    refine wp_plain [true, true] rfl rfl ?_
    refine s_move hE rfl rfl ?_; clear hE a; intro a hE
    refine s_bin hE rfl rfl bin_neq rfl ?_; clear hE a; intro a hE
    refine q_nil ?_
    replace hE : Env a 92 [(1, _), (2, _), (4, _), (5, _), (6, _), (7, _), (9, _), (29, _), (31, _), (48, _), (55, _)] := hE.sel [1, 2, 4, 5, 6, 7, 9, 29, 31, 48, 55] rfl
    refine hK12 _ _ ?_
    refine hE.split 55 rfl (fun hb55 hE' => ?_) (fun hb55 hE' => ?_)
    · replace hE := hE'; clear hE'
      replace hb55 := of_decide_eq_false (not_true hb55)
      replace hb55 : ¬ ((getEH (ls.take (min ls.length 20))) = 0) := by omega
      have hzz := getE_nz hb55
      refine wp_cond_true (hE.eval rfl) ?_
      refine wp_seq_k (fun K13 hK13 => ?_)
      refine wp_plain [true, true, true, true, false, true, true] rfl rfl ?_
      refine s_loadN hE rfl (hM.get 0 rfl) row39 rfl (by intro X h; cases h) rfl ?_; clear hE a; intro a hE
      replace hE := hE.cast 56 rfl (show _ = Value.agg ([[.int .i64 ((getHH (ls.take (min ls.length 20))).m)], [.int .i64 ((getHH (ls.take (min ls.length 20))).r)], [.bool ((getHH (ls.take (min ls.length 20))).v0.1)], [.int .u64 (((getHH (ls.take (min ls.length 20))).v0.2.1 : Nat) : Int)], bv ((getHH (ls.take (min ls.length 20))).v0.2.2.1), bv ((getHH (ls.take (min ls.length 20))).v0.2.2.2), [.bool ((getHH (ls.take (min ls.length 20))).v1.1)], [.int .u64 (((getHH (ls.take (min ls.length 20))).v1.2.1 : Nat) : Int)], bv ((getHH (ls.take (min ls.length 20))).v1.2.2.1), bv ((getHH (ls.take (min ls.length 20))).v1.2.2.2), [.bool ((getHH (ls.take (min ls.length 20))).s0.1)], [.int .i64 ((getHH (ls.take (min ls.length 20))).s0.2.1)], bv ((getHH (ls.take (min ls.length 20))).s0.2.2.1), bv ((getHH (ls.take (min ls.length 20))).s0.2.2.2.1), bv ((getHH (ls.take (min ls.length 20))).s0.2.2.2.2), [.bool ((getHH (ls.take (min ls.length 20))).s1.1)], [.int .i64 ((getHH (ls.take (min ls.length 20))).s1.2.1)], bv ((getHH (ls.take (min ls.length 20))).s1.2.2.1), bv ((getHH (ls.take (min ls.length 20))).s1.2.2.2.1), bv ((getHH (ls.take (min ls.length 20))).s1.2.2.2.2), [.bool ((getHH (ls.take (min ls.length 20))).s2.1)], [.int .i64 ((getHH (ls.take (min ls.length 20))).s2.2.1)], bv ((getHH (ls.take (min ls.length 20))).s2.2.2.1), bv ((getHH (ls.take (min ls.length 20))).s2.2.2.2.1), bv ((getHH (ls.take (min ls.length 20))).s2.2.2.2.2), [.bool ((getHH (ls.take (min ls.length 20))).s3.1)], [.int .i64 ((getHH (ls.take (min ls.length 20))).s3.2.1)], bv ((getHH (ls.take (min ls.length 20))).s3.2.2.1), bv ((getHH (ls.take (min ls.length 20))).s3.2.2.2.1), bv ((getHH (ls.take (min ls.length 20))).s3.2.2.2.2)] : List (List Value)).flatten.toArray from (by first | rfl | simp only [List.flatten_cons, List.flatten_nil, List.append_nil, List.append_assoc]))
      refine s_buildS [] hE rfl zero39 (by kernel_rfl) fpl39 (by first | (simp [PartsOk, Value.cells]; done) | (simp [PartsOk, Value.cells]; omega)) rfl ?_; clear hE a; intro a hE
      replace hE := hE.cast 57 rfl (show _ = Value.agg ([[.int .i64 0], [.int .i64 0], [.bool false], [.int .u64 0], bv (List.replicate 32 (0 : UInt8)), bv (List.replicate 32 (0 : UInt8)), [.bool false], [.int .u64 0], bv (List.replicate 32 (0 : UInt8)), bv (List.replicate 32 (0 : UInt8)), [.bool false], [.int .i64 0], bv (List.replicate 16 (0 : UInt8)), bv (List.replicate 32 (0 : UInt8)), bv (List.replicate 32 (0 : UInt8)), [.bool false], [.int .i64 0], bv (List.replicate 16 (0 : UInt8)), bv (List.replicate 32 (0 : UInt8)), bv (List.replicate 32 (0 : UInt8)), [.bool false], [.int .i64 0], bv (List.replicate 16 (0 : UInt8)), bv (List.replicate 32 (0 : UInt8)), bv (List.replicate 32 (0 : UInt8)), [.bool false], [.int .i64 0], bv (List.replicate 16 (0 : UInt8)), bv (List.replicate 32 (0 : UInt8)), bv (List.replicate 32 (0 : UInt8))] : List (List Value)).flatten.toArray from (by first | rfl | simp [setAll] | (simp only [setAll, List.set_cons_zero, List.set_cons_succ, List.flatten_cons, List.flatten_nil, List.append_nil, List.append_assoc, List.replicate_succ, List.replicate_zero])))
      refine s_bin hE rfl rfl ((eqk39 (b := decide ((((getHH (ls.take (min ls.length 20))).m) : Int) = 0 ∧ (((getHH (ls.take (min ls.length 20))).r) : Int) = 0 ∧ ((getHH (ls.take (min ls.length 20))).v0.1) = false ∧ ((((getHH (ls.take (min ls.length 20))).v0.2.1 : Nat) : Int) : Int) = 0 ∧ ((getHH (ls.take (min ls.length 20))).v0.2.2.1) = (List.replicate 32 (0 : UInt8)) ∧ ((getHH (ls.take (min ls.length 20))).v0.2.2.2) = (List.replicate 32 (0 : UInt8)) ∧ ((getHH (ls.take (min ls.length 20))).v1.1) = false ∧ ((((getHH (ls.take (min ls.length 20))).v1.2.1 : Nat) : Int) : Int) = 0 ∧ ((getHH (ls.take (min ls.length 20))).v1.2.2.1) = (List.replicate 32 (0 : UInt8)) ∧ ((getHH (ls.take (min ls.length 20))).v1.2.2.2) = (List.replicate 32 (0 : UInt8)) ∧ ((getHH (ls.take (min ls.length 20))).s0.1) = false ∧ (((getHH (ls.take (min ls.length 20))).s0.2.1) : Int) = 0 ∧ ((getHH (ls.take (min ls.length 20))).s0.2.2.1) = (List.replicate 16 (0 : UInt8)) ∧ ((getHH (ls.take (min ls.length 20))).s0.2.2.2.1) = (List.replicate 32 (0 : UInt8)) ∧ ((getHH (ls.take (min ls.length 20))).s0.2.2.2.2) = (List.replicate 32 (0 : UInt8)) ∧ ((getHH (ls.take (min ls.length 20))).s1.1) = false ∧ (((getHH (ls.take (min ls.length 20))).s1.2.1) : Int) = 0 ∧ ((getHH (ls.take (min ls.length 20))).s1.2.2.1) = (List.replicate 16 (0 : UInt8)) ∧ ((getHH (ls.take (min ls.length 20))).s1.2.2.2.1) = (List.replicate 32 (0 : UInt8)) ∧ ((getHH (ls.take (min ls.length 20))).s1.2.2.2.2) = (List.replicate 32 (0 : UInt8)) ∧ ((getHH (ls.take (min ls.length 20))).s2.1) = false ∧ (((getHH (ls.take (min ls.length 20))).s2.2.1) : Int) = 0 ∧ ((getHH (ls.take (min ls.length 20))).s2.2.2.1) = (List.replicate 16 (0 : UInt8)) ∧ ((getHH (ls.take (min ls.length 20))).s2.2.2.2.1) = (List.replicate 32 (0 : UInt8)) ∧ ((getHH (ls.take (min ls.length 20))).s2.2.2.2.2) = (List.replicate 32 (0 : UInt8)) ∧ ((getHH (ls.take (min ls.length 20))).s3.1) = false ∧ (((getHH (ls.take (min ls.length 20))).s3.2.1) : Int) = 0 ∧ ((getHH (ls.take (min ls.length 20))).s3.2.2.1) = (List.replicate 16 (0 : UInt8)) ∧ ((getHH (ls.take (min ls.length 20))).s3.2.2.2.1) = (List.replicate 32 (0 : UInt8)) ∧ ((getHH (ls.take (min ls.length 20))).s3.2.2.2.2) = (List.replicate 32 (0 : UInt8)))) (klL39 (k := 0) (x0 := ((getHH (ls.take (min ls.length 20))).m)) (x1 := ((getHH (ls.take (min ls.length 20))).r)) (x2 := (getHH (ls.take (min ls.length 20))).v0.1) (x3 := (((getHH (ls.take (min ls.length 20))).v0.2.1 : Nat) : Int)) (x4 := (getHH (ls.take (min ls.length 20))).v0.2.2.1) (x5 := (getHH (ls.take (min ls.length 20))).v0.2.2.2) (x6 := (getHH (ls.take (min ls.length 20))).v1.1) (x7 := (((getHH (ls.take (min ls.length 20))).v1.2.1 : Nat) : Int)) (x8 := (getHH (ls.take (min ls.length 20))).v1.2.2.1) (x9 := (getHH (ls.take (min ls.length 20))).v1.2.2.2) (x10 := (getHH (ls.take (min ls.length 20))).s0.1) (x11 := ((getHH (ls.take (min ls.length 20))).s0.2.1)) (x12 := (getHH (ls.take (min ls.length 20))).s0.2.2.1) (x13 := (getHH (ls.take (min ls.length 20))).s0.2.2.2.1) (x14 := (getHH (ls.take (min ls.length 20))).s0.2.2.2.2) (x15 := (getHH (ls.take (min ls.length 20))).s1.1) (x16 := ((getHH (ls.take (min ls.length 20))).s1.2.1)) (x17 := (getHH (ls.take (min ls.length 20))).s1.2.2.1) (x18 := (getHH (ls.take (min ls.length 20))).s1.2.2.2.1) (x19 := (getHH (ls.take (min ls.length 20))).s1.2.2.2.2) (x20 := (getHH (ls.take (min ls.length 20))).s2.1) (x21 := ((getHH (ls.take (min ls.length 20))).s2.2.1)) (x22 := (getHH (ls.take (min ls.length 20))).s2.2.2.1) (x23 := (getHH (ls.take (min ls.length 20))).s2.2.2.2.1) (x24 := (getHH (ls.take (min ls.length 20))).s2.2.2.2.2) (x25 := (getHH (ls.take (min ls.length 20))).s3.1) (x26 := ((getHH (ls.take (min ls.length 20))).s3.2.1)) (x27 := (getHH (ls.take (min ls.length 20))).s3.2.2.1) (x28 := (getHH (ls.take (min ls.length 20))).s3.2.2.2.1) (x29 := (getHH (ls.take (min ls.length 20))).s3.2.2.2.2) (wf_i64 (getHH_ok (ok_take ho_ls)).m) (wf_i64 (getHH_ok (ok_take ho_ls)).r) (wf_u64 (getHH_ok (ok_take ho_ls)).v0.1) (getHH_ok (ok_take ho_ls)).v0.2.1 (getHH_ok (ok_take ho_ls)).v0.2.2 (wf_u64 (getHH_ok (ok_take ho_ls)).v1.1) (getHH_ok (ok_take ho_ls)).v1.2.1 (getHH_ok (ok_take ho_ls)).v1.2.2 (wf_i64 (getHH_ok (ok_take ho_ls)).s0.1) (getHH_ok (ok_take ho_ls)).s0.2.1 (getHH_ok (ok_take ho_ls)).s0.2.2.1 (getHH_ok (ok_take ho_ls)).s0.2.2.2 (wf_i64 (getHH_ok (ok_take ho_ls)).s1.1) (getHH_ok (ok_take ho_ls)).s1.2.1 (getHH_ok (ok_take ho_ls)).s1.2.2.1 (getHH_ok (ok_take ho_ls)).s1.2.2.2 (wf_i64 (getHH_ok (ok_take ho_ls)).s2.1) (getHH_ok (ok_take ho_ls)).s2.2.1 (getHH_ok (ok_take ho_ls)).s2.2.2.1 (getHH_ok (ok_take ho_ls)).s2.2.2.2 (wf_i64 (getHH_ok (ok_take ho_ls)).s3.1) (getHH_ok (ok_take ho_ls)).s3.2.1 (getHH_ok (ok_take ho_ls)).s3.2.2.1 (getHH_ok (ok_take ho_ls)).s3.2.2.2) (klL39 (k := 0) (x0 := 0) (x1 := 0) (x2 := false) (x3 := 0) (x4 := List.replicate 32 (0 : UInt8)) (x5 := List.replicate 32 (0 : UInt8)) (x6 := false) (x7 := 0) (x8 := List.replicate 32 (0 : UInt8)) (x9 := List.replicate 32 (0 : UInt8)) (x10 := false) (x11 := 0) (x12 := List.replicate 16 (0 : UInt8)) (x13 := List.replicate 32 (0 : UInt8)) (x14 := List.replicate 32 (0 : UInt8)) (x15 := false) (x16 := 0) (x17 := List.replicate 16 (0 : UInt8)) (x18 := List.replicate 32 (0 : UInt8)) (x19 := List.replicate 32 (0 : UInt8)) (x20 := false) (x21 := 0) (x22 := List.replicate 16 (0 : UInt8)) (x23 := List.replicate 32 (0 : UInt8)) (x24 := List.replicate 32 (0 : UInt8)) (x25 := false) (x26 := 0) (x27 := List.replicate 16 (0 : UInt8)) (x28 := List.replicate 32 (0 : UInt8)) (x29 := List.replicate 32 (0 : UInt8)) (by first | exact wf_i64 (by assumption) | (simp [Lit.wf, IntKind.min, IntKind.max, IntKind.signed, IntKind.bits]; try omega)) (by first | exact wf_i64 (by assumption) | (simp [Lit.wf, IntKind.min, IntKind.max, IntKind.signed, IntKind.bits]; try omega)) (by first | exact wf_i64 (by assumption) | (simp [Lit.wf, IntKind.min, IntKind.max, IntKind.signed, IntKind.bits]; try omega)) List.length_replicate List.length_replicate (by first | exact wf_i64 (by assumption) | (simp [Lit.wf, IntKind.min, IntKind.max, IntKind.signed, IntKind.bits]; try omega)) List.length_replicate List.length_replicate (by first | exact wf_i64 (by assumption) | (simp [Lit.wf, IntKind.min, IntKind.max, IntKind.signed, IntKind.bits]; try omega)) List.length_replicate List.length_replicate List.length_replicate (by first | exact wf_i64 (by assumption) | (simp [Lit.wf, IntKind.min, IntKind.max, IntKind.signed, IntKind.bits]; try omega)) List.length_replicate List.length_replicate List.length_replicate (by first | exact wf_i64 (by assumption) | (simp [Lit.wf, IntKind.min, IntKind.max, IntKind.signed, IntKind.bits]; try omega)) List.length_replicate List.length_replicate List.length_replicate (by first | exact wf_i64 (by assumption) | (simp [Lit.wf, IntKind.min, IntKind.max, IntKind.signed, IntKind.bits]; try omega)) List.length_replicate List.length_replicate List.length_replicate) (by rw [flat_eq (by have hl_x4 : ((getHH (ls.take (min ls.length 20))).v0.2.2.1).length = 32 := (getHH_ok (ok_take ho_ls)).v0.2.1; have hl_x5 : ((getHH (ls.take (min ls.length 20))).v0.2.2.2).length = 32 := (getHH_ok (ok_take ho_ls)).v0.2.2; have hl_x8 : ((getHH (ls.take (min ls.length 20))).v1.2.2.1).length = 32 := (getHH_ok (ok_take ho_ls)).v1.2.1; have hl_x9 : ((getHH (ls.take (min ls.length 20))).v1.2.2.2).length = 32 := (getHH_ok (ok_take ho_ls)).v1.2.2; have hl_x12 : ((getHH (ls.take (min ls.length 20))).s0.2.2.1).length = 16 := (getHH_ok (ok_take ho_ls)).s0.2.1; have hl_x13 : ((getHH (ls.take (min ls.length 20))).s0.2.2.2.1).length = 32 := (getHH_ok (ok_take ho_ls)).s0.2.2.1; have hl_x14 : ((getHH (ls.take (min ls.length 20))).s0.2.2.2.2).length = 32 := (getHH_ok (ok_take ho_ls)).s0.2.2.2; have hl_x17 : ((getHH (ls.take (min ls.length 20))).s1.2.2.1).length = 16 := (getHH_ok (ok_take ho_ls)).s1.2.1; have hl_x18 : ((getHH (ls.take (min ls.length 20))).s1.2.2.2.1).length = 32 := (getHH_ok (ok_take ho_ls)).s1.2.2.1; have hl_x19 : ((getHH (ls.take (min ls.length 20))).s1.2.2.2.2).length = 32 := (getHH_ok (ok_take ho_ls)).s1.2.2.2; have hl_x22 : ((getHH (ls.take (min ls.length 20))).s2.2.2.1).length = 16 := (getHH_ok (ok_take ho_ls)).s2.2.1; have hl_x23 : ((getHH (ls.take (min ls.length 20))).s2.2.2.2.1).length = 32 := (getHH_ok (ok_take ho_ls)).s2.2.2.1; have hl_x24 : ((getHH (ls.take (min ls.length 20))).s2.2.2.2.2).length = 32 := (getHH_ok (ok_take ho_ls)).s2.2.2.2; have hl_x27 : ((getHH (ls.take (min ls.length 20))).s3.2.2.1).length = 16 := (getHH_ok (ok_take ho_ls)).s3.2.1; have hl_x28 : ((getHH (ls.take (min ls.length 20))).s3.2.2.2.1).length = 32 := (getHH_ok (ok_take ho_ls)).s3.2.2.1; have hl_x29 : ((getHH (ls.take (min ls.length 20))).s3.2.2.2.2).length = 32 := (getHH_ok (ok_take ho_ls)).s3.2.2.2; have hl_y4 : (List.replicate 32 (0 : UInt8)).length = 32 := List.length_replicate; have hl_y5 : (List.replicate 32 (0 : UInt8)).length = 32 := List.length_replicate; have hl_y8 : (List.replicate 32 (0 : UInt8)).length = 32 := List.length_replicate; have hl_y9 : (List.replicate 32 (0 : UInt8)).length = 32 := List.length_replicate; have hl_y12 : (List.replicate 16 (0 : UInt8)).length = 16 := List.length_replicate; have hl_y13 : (List.replicate 32 (0 : UInt8)).length = 32 := List.length_replicate; have hl_y14 : (List.replicate 32 (0 : UInt8)).length = 32 := List.length_replicate; have hl_y17 : (List.replicate 16 (0 : UInt8)).length = 16 := List.length_replicate; have hl_y18 : (List.replicate 32 (0 : UInt8)).length = 32 := List.length_replicate; have hl_y19 : (List.replicate 32 (0 : UInt8)).length = 32 := List.length_replicate; have hl_y22 : (List.replicate 16 (0 : UInt8)).length = 16 := List.length_replicate; have hl_y23 : (List.replicate 32 (0 : UInt8)).length = 32 := List.length_replicate; have hl_y24 : (List.replicate 32 (0 : UInt8)).length = 32 := List.length_replicate; have hl_y27 : (List.replicate 16 (0 : UInt8)).length = 16 := List.length_replicate; have hl_y28 : (List.replicate 32 (0 : UInt8)).length = 32 := List.length_replicate; have hl_y29 : (List.replicate 32 (0 : UInt8)).length = 32 := List.length_replicate; simp only [List.map_cons, List.map_nil, bv_length, List.length_cons, List.length_nil, hl_x4, hl_x5, hl_x8, hl_x9, hl_x12, hl_x13, hl_x14, hl_x17, hl_x18, hl_x19, hl_x22, hl_x23, hl_x24, hl_x27, hl_x28, hl_x29, hl_y4, hl_y5, hl_y8, hl_y9, hl_y12, hl_y13, hl_y14, hl_y17, hl_y18, hl_y19, hl_y22, hl_y23, hl_y24, hl_y27, hl_y28, hl_y29])]; simp [bv_iff, Int.ofNat_inj]; try omega)).1) rfl ?_; clear hE a; intro a hE
      refine s_move hE rfl rfl ?_; clear hE a; intro a hE
      replace hE := hE.cast 59 rfl (show _ = Value.bool true from (congrArg Value.bool (by first | rfl | (rw [hzz]; rfl) | (rw [hzz]; decide +kernel))))
      refine g_yes hE rfl rfl ?_
      refine s_call hE rfl Try.call13 (works24_c  _ ) rfl ?_
      rintro e w10 ⟨rfl, hN⟩
      refine ⟨_, rfl, trivial, ?_⟩; clear hE a; intro a hE
      replace hM : Mem _ _ w10 [_, _, _, _, _, _] := hM.call0 hN trivial; clear hN
      refine s_pickt hE rfl rfl rfl ?_; clear hE a; intro a hE
      refine s_assign hE rfl rfl ?_; clear hE a; intro a hE
      refine q_nil ?_
      replace hE : Env a 92 [(1, _), (2, _), (4, _), (5, _), (6, _), (7, _), (9, _), (29, _), (31, _), (48, _), (55, _)] := hE.sel [1, 2, 4, 5, 6, 7, 9, 29, 31, 48, 55] rfl
      refine hK13 _ _ ?_
      refine wp_ret ?_
      refine q_then_r ?_
      refine f_ret1 hE rfl rfl ?_
      exact ⟨(by first | rfl | (simp; done)), hM.pick [] rfl⟩
    · replace hE := hE'; clear hE'
      replace hb55 := of_decide_eq_true (not_false' hb55)
      replace hb55 : (getEH (ls.take (min ls.length 20))) = 0 := by omega
      have hge : getEH (ls.take (min ls.length 20)) = 0 := by omega
      obtain ⟨hgp, hgc⟩ := get_put (ok_take ho_ls) hge
      refine wp_cond_false (hE.eval rfl) ?_
      refine wp_skip ?_
      refine hK11 _ _ ?_
      refine wp_seq_k (fun K13 hK13 => ?_)
      refine wp_plain [true, false, true, true, true, true, true] rfl rfl ?_
      refine s_loadN hE rfl (hM.get 0 rfl) row39 rfl (by intro X h; cases h) rfl ?_; clear hE a; intro a hE
      replace hE := hE.cast 63 rfl (show _ = Value.agg ([[.int .i64 ((getHH (ls.take (min ls.length 20))).m)], [.int .i64 ((getHH (ls.take (min ls.length 20))).r)], [.bool ((getHH (ls.take (min ls.length 20))).v0.1)], [.int .u64 (((getHH (ls.take (min ls.length 20))).v0.2.1 : Nat) : Int)], bv ((getHH (ls.take (min ls.length 20))).v0.2.2.1), bv ((getHH (ls.take (min ls.length 20))).v0.2.2.2), [.bool ((getHH (ls.take (min ls.length 20))).v1.1)], [.int .u64 (((getHH (ls.take (min ls.length 20))).v1.2.1 : Nat) : Int)], bv ((getHH (ls.take (min ls.length 20))).v1.2.2.1), bv ((getHH (ls.take (min ls.length 20))).v1.2.2.2), [.bool ((getHH (ls.take (min ls.length 20))).s0.1)], [.int .i64 ((getHH (ls.take (min ls.length 20))).s0.2.1)], bv ((getHH (ls.take (min ls.length 20))).s0.2.2.1), bv ((getHH (ls.take (min ls.length 20))).s0.2.2.2.1), bv ((getHH (ls.take (min ls.length 20))).s0.2.2.2.2), [.bool ((getHH (ls.take (min ls.length 20))).s1.1)], [.int .i64 ((getHH (ls.take (min ls.length 20))).s1.2.1)], bv ((getHH (ls.take (min ls.length 20))).s1.2.2.1), bv ((getHH (ls.take (min ls.length 20))).s1.2.2.2.1), bv ((getHH (ls.take (min ls.length 20))).s1.2.2.2.2), [.bool ((getHH (ls.take (min ls.length 20))).s2.1)], [.int .i64 ((getHH (ls.take (min ls.length 20))).s2.2.1)], bv ((getHH (ls.take (min ls.length 20))).s2.2.2.1), bv ((getHH (ls.take (min ls.length 20))).s2.2.2.2.1), bv ((getHH (ls.take (min ls.length 20))).s2.2.2.2.2), [.bool ((getHH (ls.take (min ls.length 20))).s3.1)], [.int .i64 ((getHH (ls.take (min ls.length 20))).s3.2.1)], bv ((getHH (ls.take (min ls.length 20))).s3.2.2.1), bv ((getHH (ls.take (min ls.length 20))).s3.2.2.2.1), bv ((getHH (ls.take (min ls.length 20))).s3.2.2.2.2)] : List (List Value)).flatten.toArray from (by first | rfl | simp only [List.flatten_cons, List.flatten_nil, List.append_nil, List.append_assoc]))
      refine s_call hE rfl Try.call8 (hput_a (getHH (ls.take (min ls.length 20))) _ (getHH_ok (ok_take ho_ls)) ) rfl ?_
      rintro e w10 ⟨v64_0, rfl, hN⟩
      refine ⟨_, rfl, trivial, ?_⟩; clear hE a; intro a hE
      replace hM : Mem _ _ w10 [_, _, _, _, _, _, _] := hM.call0 hN ⟨rfl, trivial⟩; clear hN
      replace hM := Mem.ownRowsEq (f := bv) (ls := putH (getHH (ls.take (min ls.length 20)))) (ms := (ls.take (min ls.length 20))) hM hgp
      refine s_move hE rfl rfl ?_; clear hE a; intro a hE
      refine s_extract hE rfl rfl rfl ?_; clear hE a; intro a hE
      refine s_extract hE rfl rfl rfl ?_; clear hE a; intro a hE
      refine s_assign hE rfl rfl ?_; clear hE a; intro a hE
      refine s_assign hE rfl rfl ?_; clear hE a; intro a hE
      refine q_nil ?_
      replace hE : Env a 92 [(1, _), (2, _), (4, _), (5, _), (6, _), (7, _), (9, _), (11, _), (12, _), (29, _), (31, _), (48, _), (55, _)] := hE.sel [1, 2, 4, 5, 6, 7, 9, 11, 12, 29, 31, 48, 55] rfl
      refine hK13 _ _ ?_
      refine wp_seq_k (fun K14 hK14 => ?_)
      refine wp_seq_k (fun K15 hK15 => ?_)
      refine wp_plain [true, true, true, true, true, true, true, true, true] rfl rfl ?_
      refine s_move hE rfl rfl ?_; clear hE a; intro a hE
      refine s_bin hE rfl rfl bin_neq rfl ?_; clear hE a; intro a hE
      refine s_move hE rfl rfl ?_; clear hE a; intro a hE
      replace hE := hE.cast 69 rfl (show _ = Value.bool false from (congrArg Value.bool (by first | rfl | (rw [hgc]; rfl))))
      refine g_yes hE rfl rfl ?_
      refine s_move hE rfl rfl ?_; clear hE a; intro a hE
      refine g_yes hE rfl rfl ?_
      refine s_len hE rfl Try.underlying40 (own_slice (hM.get 0 rfl)) rfl ?_; clear hE a; intro a hE
      refine g_yes hE rfl rfl ?_
      refine s_move hE rfl rfl ?_; clear hE a; intro a hE
      refine g_yes hE rfl rfl ?_
      refine s_len hE rfl Try.underlying40 (rd_slice (hM.get 4 rfl)) rfl ?_; clear hE a; intro a hE
      refine g_yes hE rfl rfl ?_
      refine s_bin hE rfl rfl bin_neq rfl ?_; clear hE a; intro a hE
      refine s_pickf hE rfl rfl rfl ?_; clear hE a; intro a hE
      refine q_nil ?_
      replace hE : Env a 92 [(1, _), (2, _), (4, _), (5, _), (6, _), (7, _), (9, _), (11, _), (29, _), (31, _), (48, _), (55, _), (75, _)] := hE.sel [1, 2, 4, 5, 6, 7, 9, 11, 29, 31, 48, 55, 75] rfl
      refine hK15 _ _ ?_
      replace hE := hE.cast 75 rfl (show _ = Value.bool false from (congrArg Value.bool (by first | rfl | simp)))
      refine wp_cond_false (hE.eval rfl) ?_
      refine wp_skip ?_
      refine hK14 _ _ ?_
      refine wp_seq_k (fun K16 hK16 => ?_)
      refine wp_seq_k (fun K17 hK17 => ?_)
      refine wp_plain [true] rfl rfl ?_
      refine s_assign hE rfl rfl ?_; clear hE a; intro a hE
      refine q_nil ?_
      refine hK17 _ _ ?_
      refine wp_block ?_
      refine c_loop (fun (i : Nat) a w' => i ≤ (ls.take (min ls.length 20)).length ∧ Env a 92 [(1, v18), (2, .pointer (some ⟨b2, 0, none⟩)), (4, .bool false), (5, v21_0), (6, .int .i64 ((checkH h : Nat) : Int)), (7, .pointer (some ⟨b7, 0, none⟩)), (9, .pointer (some ⟨b9, 0, none⟩)), (11, v64_0), (13, .int .i64 ((i : Nat) : Int)), (29, .bool false), (31, .bool true), (48, .bool false), (55, .bool false), (75, .bool false)] ∧ Mem w [] w' [own v64_0 64 ((ls.take (min ls.length 20)).length) ((ls.take (min ls.length 20)).flatMap bv), blk b9 [[.int .i64 ((getHH (ls.take (min ls.length 20))).m)], [.int .i64 ((getHH (ls.take (min ls.length 20))).r)], [.bool ((getHH (ls.take (min ls.length 20))).v0.1)], [.int .u64 (((getHH (ls.take (min ls.length 20))).v0.2.1 : Nat) : Int)], bv ((getHH (ls.take (min ls.length 20))).v0.2.2.1), bv ((getHH (ls.take (min ls.length 20))).v0.2.2.2), [.bool ((getHH (ls.take (min ls.length 20))).v1.1)], [.int .u64 (((getHH (ls.take (min ls.length 20))).v1.2.1 : Nat) : Int)], bv ((getHH (ls.take (min ls.length 20))).v1.2.2.1), bv ((getHH (ls.take (min ls.length 20))).v1.2.2.2), [.bool ((getHH (ls.take (min ls.length 20))).s0.1)], [.int .i64 ((getHH (ls.take (min ls.length 20))).s0.2.1)], bv ((getHH (ls.take (min ls.length 20))).s0.2.2.1), bv ((getHH (ls.take (min ls.length 20))).s0.2.2.2.1), bv ((getHH (ls.take (min ls.length 20))).s0.2.2.2.2), [.bool ((getHH (ls.take (min ls.length 20))).s1.1)], [.int .i64 ((getHH (ls.take (min ls.length 20))).s1.2.1)], bv ((getHH (ls.take (min ls.length 20))).s1.2.2.1), bv ((getHH (ls.take (min ls.length 20))).s1.2.2.2.1), bv ((getHH (ls.take (min ls.length 20))).s1.2.2.2.2), [.bool ((getHH (ls.take (min ls.length 20))).s2.1)], [.int .i64 ((getHH (ls.take (min ls.length 20))).s2.2.1)], bv ((getHH (ls.take (min ls.length 20))).s2.2.2.1), bv ((getHH (ls.take (min ls.length 20))).s2.2.2.2.1), bv ((getHH (ls.take (min ls.length 20))).s2.2.2.2.2), [.bool ((getHH (ls.take (min ls.length 20))).s3.1)], [.int .i64 ((getHH (ls.take (min ls.length 20))).s3.2.1)], bv ((getHH (ls.take (min ls.length 20))).s3.2.2.1), bv ((getHH (ls.take (min ls.length 20))).s3.2.2.2.1), bv ((getHH (ls.take (min ls.length 20))).s3.2.2.2.2)] [1, 1, 1, 1, 32, 32, 1, 1, 32, 32, 1, 1, 16, 32, 32, 1, 1, 16, 32, 32, 1, 1, 16, 32, 32, 1, 1, 16, 32, 32] 39, blk b7 [[.int .i64 h.m], [.int .i64 h.r], [.bool h.v0.1], [.int .u64 ((h.v0.2.1 : Nat) : Int)], bv h.v0.2.2.1, bv h.v0.2.2.2, [.bool h.v1.1], [.int .u64 ((h.v1.2.1 : Nat) : Int)], bv h.v1.2.2.1, bv h.v1.2.2.2, [.bool h.s0.1], [.int .i64 h.s0.2.1], bv h.s0.2.2.1, bv h.s0.2.2.2.1, bv h.s0.2.2.2.2, [.bool h.s1.1], [.int .i64 h.s1.2.1], bv h.s1.2.2.1, bv h.s1.2.2.2.1, bv h.s1.2.2.2.2, [.bool h.s2.1], [.int .i64 h.s2.2.1], bv h.s2.2.2.1, bv h.s2.2.2.2.1, bv h.s2.2.2.2.2, [.bool h.s3.1], [.int .i64 h.s3.2.1], bv h.s3.2.2.1, bv h.s3.2.2.2.1, bv h.s3.2.2.2.2] [1, 1, 1, 1, 32, 32, 1, 1, 32, 32, 1, 1, 16, 32, 32, 1, 1, 16, 32, 32, 1, 1, 16, 32, 32, 1, 1, 16, 32, 32] 39, own v21_0 64 ((putH h).length) ((putH h).flatMap bv), rd v18 64 ((ls.take (min ls.length 20)).length) (lc - 0) ((ls.take (min ls.length 20)).flatMap bv), blk b2 [[.int .i64 h.m], [.int .i64 h.r], [.bool h.v0.1], [.int .u64 ((h.v0.2.1 : Nat) : Int)], bv h.v0.2.2.1, bv h.v0.2.2.2, [.bool h.v1.1], [.int .u64 ((h.v1.2.1 : Nat) : Int)], bv h.v1.2.2.1, bv h.v1.2.2.2, [.bool h.s0.1], [.int .i64 h.s0.2.1], bv h.s0.2.2.1, bv h.s0.2.2.2.1, bv h.s0.2.2.2.2, [.bool h.s1.1], [.int .i64 h.s1.2.1], bv h.s1.2.2.1, bv h.s1.2.2.2.1, bv h.s1.2.2.2.2, [.bool h.s2.1], [.int .i64 h.s2.2.1], bv h.s2.2.2.1, bv h.s2.2.2.2.1, bv h.s2.2.2.2.2, [.bool h.s3.1], [.int .i64 h.s3.2.1], bv h.s3.2.2.1, bv h.s3.2.2.2.1, bv h.s3.2.2.2.2] [1, 1, 1, 1, 32, 32, 1, 1, 32, 32, 1, 1, 16, 32, 32, 1, 1, 16, 32, 32, 1, 1, 16, 32, 32, 1, 1, 16, 32, 32] 39, rd u 64 ls.length lc (ls.flatMap bv)]) (fun i => (ls.take (min ls.length 20)).length - i) 0 ⟨Nat.zero_le _, hE.sel [1, 2, 4, 5, 6, 7, 9, 11, 13, 29, 31, 48, 55, 75] rfl, hM⟩ ?_
      clear hE hM a; rintro i a w11 ⟨hi, hE, hM⟩
      refine wp_seq_k (fun K18 hK18 => ?_)
      refine wp_seq_k (fun K19 hK19 => ?_)
      refine wp_plain [true, true, true, true] rfl rfl ?_
      refine s_move hE rfl rfl ?_; clear hE a; intro a hE
      refine s_move hE rfl rfl ?_; clear hE a; intro a hE
      refine s_len hE rfl Try.underlying40 (rd_slice (hM.get 4 rfl)) rfl ?_; clear hE a; intro a hE
      refine s_bin hE rfl rfl bin_lss rfl ?_; clear hE a; intro a hE
      refine q_nil ?_
      replace hE : Env a 92 [(1, _), (2, _), (4, _), (5, _), (6, _), (7, _), (9, _), (11, _), (13, _), (29, _), (31, _), (48, _), (55, _), (75, _), (79, _)] := hE.sel [1, 2, 4, 5, 6, 7, 9, 11, 13, 29, 31, 48, 55, 75, 79] rfl
      refine hK19 _ _ ?_
      refine hE.split 79 rfl (fun hb79 hE' => ?_) (fun hb79 hE' => ?_)
      · replace hE := hE'; clear hE'
        replace hb79 := of_decide_eq_true hb79
        replace hb79 : i < ((ls.take (min ls.length 20)).length) := by omega
        replace hb79 : i < (ls.take (min ls.length 20)).length := by omega
        refine wp_cond_true (hE.eval rfl) ?_
        refine wp_skip ?_
        refine hK18 _ _ ?_
        refine wp_seq_k (fun K20 hK20 => ?_)
        refine wp_block ?_
        refine wp_seq_k (fun K21 hK21 => ?_)
        refine wp_drawnM hM (by kernel_rfl) (fun _ => False) [(0, true), (1, true), (2, true), (3, true), (4, true), (5, true), (6, true), (7, true), (8, true)] [] (by kernel_rfl) rfl ?_
        intro w12 hM' hww12; clear hM; have hM := hM'; clear hM'
        refine s_move hE rfl rfl ?_; clear hE a; intro a hE
        refine s_move hE rfl rfl ?_; clear hE a; intro a hE
        obtain ⟨cx84, hx84⟩ := own_rd (hM.get 0 rfl)
        refine s_indexRd (j := i) hE rfl hx84 rfl slt40 (by first | rfl | omega) (by first | omega | (simp at *; omega)) rfl ?_; clear hE a; intro a p84 hE hc84 hp84
        have hlj84 : i < (ls.take (min ls.length 20)).length := (by first | omega | (simp at *; omega))
        have hok84 := (ok_take ho_ls) _ (getD_mem (d := (List.replicate 64 (0 : UInt8))) hlj84)
        rw [flat_elem (d := (List.replicate 64 (0 : UInt8))) (fun x hx => ((bv_length _).trans (ok_take ho_ls x hx))) hlj84] at hc84
        refine s_loadAtN hE rfl hc84 (by rw [((bv_length _).trans hok84)]; exact row59) (by intro X h; cases h; simp) rfl ?_; clear hE a; intro a hE
        replace hE := hE.cast 85 rfl (show _ = Value.agg (bv ((ls.take (min ls.length 20)).getD i (List.replicate 64 (0 : UInt8)))).toArray from rfl)
        refine s_move hE rfl rfl ?_; clear hE a; intro a hE
        refine s_move hE rfl rfl ?_; clear hE a; intro a hE
        refine s_indexRd (j := i) hE rfl (hM.get 4 rfl) rfl slt40 (by first | rfl | omega) (by first | omega | (simp at *; omega)) rfl ?_; clear hE a; intro a p88 hE hc88 hp88
        have hlj88 : i < (ls.take (min ls.length 20)).length := (by first | omega | (simp at *; omega))
        have hok88 := (ok_take ho_ls) _ (getD_mem (d := (List.replicate 64 (0 : UInt8))) hlj88)
        rw [flat_elem (d := (List.replicate 64 (0 : UInt8))) (fun x hx => ((bv_length _).trans (ok_take ho_ls x hx))) hlj88] at hc88
        refine s_loadAtN hE rfl hc88 (by rw [((bv_length _).trans hok88)]; exact row59) (by intro X h; cases h; simp) rfl ?_; clear hE a; intro a hE
        replace hE := hE.cast 89 rfl (show _ = Value.agg (bv ((ls.take (min ls.length 20)).getD i (List.replicate 64 (0 : UInt8)))).toArray from rfl)
        refine s_bin hE rfl rfl (eqa59 (by first | assumption | (simp; done) | (simp [*]; done)) (by first | assumption | (simp; done) | (simp [*]; done))).2 rfl ?_; clear hE a; intro a hE
        refine q_nil ?_
        replace hE : Env a 92 [(1, _), (2, _), (4, _), (5, _), (6, _), (7, _), (9, _), (11, _), (13, _), (29, _), (31, _), (48, _), (55, _), (75, _), (79, _), (90, _)] := hE.sel [1, 2, 4, 5, 6, 7, 9, 11, 13, 29, 31, 48, 55, 75, 79, 90] rfl
        refine hK21 _ _ ?_
        replace hE := hE.cast 90 rfl (show _ = Value.bool false from (congrArg Value.bool (by first | rfl | simp)))
        refine wp_cond_false (hE.eval rfl) ?_
        refine wp_skip ?_
        refine q_block_n ?_
        refine hK20 _ _ ?_
        refine wp_plain [true, true, true] rfl rfl ?_
        refine s_move hE rfl rfl ?_; clear hE a; intro a hE
        refine s_bin hE rfl rfl (show Bin _ _ _ _ _ (.int .i64 ((i + 1 : Nat) : Int)) from bin_add (by rw [wrap_i64 (by omega) (by omega)]; omega)) rfl ?_; clear hE a; intro a hE
        refine s_assign hE rfl rfl ?_; clear hE a; intro a hE
        refine q_nil ?_
        replace hE : Env a 92 [(1, _), (2, _), (4, _), (5, _), (6, _), (7, _), (9, _), (11, _), (13, _), (29, _), (31, _), (48, _), (55, _), (75, _), (79, _), (90, _)] := hE.sel [1, 2, 4, 5, 6, 7, 9, 11, 13, 29, 31, 48, 55, 75, 79, 90] rfl
        replace hE := hE.cast 13 rfl (show _ = Value.int .i64 (((i + 1) : Nat) : Int) from (congrArg _ (by omega)))
        replace hM : Mem _ _ w12 [_, _, _, _, _, _, _] := hM.pick [0, 1, 2, 3, 4, 5, 6] rfl
        exact ⟨i + 1, ⟨by omega, hE.sel [1, 2, 4, 5, 6, 7, 9, 11, 13, 29, 31, 48, 55, 75] rfl, hM⟩, by omega⟩
      · replace hE := hE'; clear hE'
        replace hb79 := of_decide_eq_false hb79
        replace hb79 : ¬ (i < ((ls.take (min ls.length 20)).length)) := by omega
        obtain rfl : (ls.take (min ls.length 20)).length = i := by omega
        refine wp_cond_false (hE.eval rfl) ?_
        refine wp_exit ?_
        refine q_then_e ?_
        refine q_then_e ?_
        refine q_block_x ?_
        refine hK16 _ _ ?_
        refine wp_seq_k (fun K20 hK20 => ?_)
        refine wp_plain [false, true] rfl rfl ?_
        refine s_call hE rfl Try.call13 (works24_c  _ ) rfl ?_
        rintro e w12 ⟨rfl, hN⟩
        refine ⟨_, rfl, trivial, ?_⟩; clear hE a; intro a hE
        replace hM : Mem _ _ w12 [_, _, _, _, _, _, _] := hM.call0 hN trivial; clear hN
        refine s_assign hE rfl rfl ?_; clear hE a; intro a hE
        refine q_nil ?_
        replace hE : Env a 92 [(1, _), (2, _), (4, _), (5, _), (6, _), (7, _), (9, _), (11, _), (13, _), (29, _), (31, _), (48, _), (55, _), (75, _), (79, _)] := hE.sel [1, 2, 4, 5, 6, 7, 9, 11, 13, 29, 31, 48, 55, 75, 79] rfl
        refine hK20 _ _ ?_
        refine wp_ret ?_
        refine f_ret1 hE rfl rfl ?_
        exact ⟨(by first | rfl | (simp; done)), hM.pick [] rfl⟩
  · replace hE := hE'; clear hE'
    replace hb31 := of_decide_eq_false hb31
    replace hb31 : ¬ ((checkH h) = 0) := by omega
    refine wp_cond_false (hE.eval rfl) ?_
    refine wp_skip ?_
    refine hK6 _ _ ?_
    refine wp_seq_k (fun K8 hK8 => ?_)
    refine wp_plain [true, false, true, true, true, false, false, true] rfl rfl ?_
    refine s_move hE rfl rfl ?_; clear hE a; intro a hE
    refine s_call hE rfl Try.call14 (hget_a _ (ls.take (min ls.length 20)) _ _ (hM.get 1 rfl) (ok_take ho_ls) (by simp; omega)) rfl ?_
    rintro e w4 ⟨rfl, hN⟩
    refine ⟨_, rfl, trivial, ?_⟩; clear hE a; intro a hE
    replace hM : Mem _ _ w4 [_, _, _, _] := hM.call0 hN trivial; clear hN
    refine s_move hE rfl rfl ?_; clear hE a; intro a hE
    refine s_extract hE rfl rfl rfl ?_; clear hE a; intro a hE
    refine s_extract hE rfl rfl rfl ?_; clear hE a; intro a hE
    refine s_alloc [1, 1, 1, 1, 32, 32, 1, 1, 32, 32, 1, 1, 16, 32, 32, 1, 1, 16, 32, 32, 1, 1, 16, 32, 32, 1, 1, 16, 32, 32] hE hM zeroL39 rfl rfl ?_; clear hE a; intro a b9 w5 hE hM'
    clear hM; have hM := hM'; clear hM'
    have hsl398_4 : ((getHH (ls.take (min ls.length 20))).v0.2.2.1).length = 32 := (getHH_ok (ok_take ho_ls)).v0.2.1
    have hsl398_5 : ((getHH (ls.take (min ls.length 20))).v0.2.2.2).length = 32 := (getHH_ok (ok_take ho_ls)).v0.2.2
    have hsl398_8 : ((getHH (ls.take (min ls.length 20))).v1.2.2.1).length = 32 := (getHH_ok (ok_take ho_ls)).v1.2.1
    have hsl398_9 : ((getHH (ls.take (min ls.length 20))).v1.2.2.2).length = 32 := (getHH_ok (ok_take ho_ls)).v1.2.2
    have hsl398_12 : ((getHH (ls.take (min ls.length 20))).s0.2.2.1).length = 16 := (getHH_ok (ok_take ho_ls)).s0.2.1
    have hsl398_13 : ((getHH (ls.take (min ls.length 20))).s0.2.2.2.1).length = 32 := (getHH_ok (ok_take ho_ls)).s0.2.2.1
    have hsl398_14 : ((getHH (ls.take (min ls.length 20))).s0.2.2.2.2).length = 32 := (getHH_ok (ok_take ho_ls)).s0.2.2.2
    have hsl398_17 : ((getHH (ls.take (min ls.length 20))).s1.2.2.1).length = 16 := (getHH_ok (ok_take ho_ls)).s1.2.1
    have hsl398_18 : ((getHH (ls.take (min ls.length 20))).s1.2.2.2.1).length = 32 := (getHH_ok (ok_take ho_ls)).s1.2.2.1
    have hsl398_19 : ((getHH (ls.take (min ls.length 20))).s1.2.2.2.2).length = 32 := (getHH_ok (ok_take ho_ls)).s1.2.2.2
    have hsl398_22 : ((getHH (ls.take (min ls.length 20))).s2.2.2.1).length = 16 := (getHH_ok (ok_take ho_ls)).s2.2.1
    have hsl398_23 : ((getHH (ls.take (min ls.length 20))).s2.2.2.2.1).length = 32 := (getHH_ok (ok_take ho_ls)).s2.2.2.1
    have hsl398_24 : ((getHH (ls.take (min ls.length 20))).s2.2.2.2.2).length = 32 := (getHH_ok (ok_take ho_ls)).s2.2.2.2
    have hsl398_27 : ((getHH (ls.take (min ls.length 20))).s3.2.2.1).length = 16 := (getHH_ok (ok_take ho_ls)).s3.2.1
    have hsl398_28 : ((getHH (ls.take (min ls.length 20))).s3.2.2.2.1).length = 32 := (getHH_ok (ok_take ho_ls)).s3.2.2.1
    have hsl398_29 : ((getHH (ls.take (min ls.length 20))).s3.2.2.2.2).length = 32 := (getHH_ok (ok_take ho_ls)).s3.2.2.2
    refine s_storeSegs 0 30 (vss := [[.int .i64 ((getHH (ls.take (min ls.length 20))).m)], [.int .i64 ((getHH (ls.take (min ls.length 20))).r)], [.bool ((getHH (ls.take (min ls.length 20))).v0.1)], [.int .u64 (((getHH (ls.take (min ls.length 20))).v0.2.1 : Nat) : Int)], bv ((getHH (ls.take (min ls.length 20))).v0.2.2.1), bv ((getHH (ls.take (min ls.length 20))).v0.2.2.2), [.bool ((getHH (ls.take (min ls.length 20))).v1.1)], [.int .u64 (((getHH (ls.take (min ls.length 20))).v1.2.1 : Nat) : Int)], bv ((getHH (ls.take (min ls.length 20))).v1.2.2.1), bv ((getHH (ls.take (min ls.length 20))).v1.2.2.2), [.bool ((getHH (ls.take (min ls.length 20))).s0.1)], [.int .i64 ((getHH (ls.take (min ls.length 20))).s0.2.1)], bv ((getHH (ls.take (min ls.length 20))).s0.2.2.1), bv ((getHH (ls.take (min ls.length 20))).s0.2.2.2.1), bv ((getHH (ls.take (min ls.length 20))).s0.2.2.2.2), [.bool ((getHH (ls.take (min ls.length 20))).s1.1)], [.int .i64 ((getHH (ls.take (min ls.length 20))).s1.2.1)], bv ((getHH (ls.take (min ls.length 20))).s1.2.2.1), bv ((getHH (ls.take (min ls.length 20))).s1.2.2.2.1), bv ((getHH (ls.take (min ls.length 20))).s1.2.2.2.2), [.bool ((getHH (ls.take (min ls.length 20))).s2.1)], [.int .i64 ((getHH (ls.take (min ls.length 20))).s2.2.1)], bv ((getHH (ls.take (min ls.length 20))).s2.2.2.1), bv ((getHH (ls.take (min ls.length 20))).s2.2.2.2.1), bv ((getHH (ls.take (min ls.length 20))).s2.2.2.2.2), [.bool ((getHH (ls.take (min ls.length 20))).s3.1)], [.int .i64 ((getHH (ls.take (min ls.length 20))).s3.2.1)], bv ((getHH (ls.take (min ls.length 20))).s3.2.2.1), bv ((getHH (ls.take (min ls.length 20))).s3.2.2.2.1), bv ((getHH (ls.take (min ls.length 20))).s3.2.2.2.2)]) hE rfl rfl hM rfl sz39 (by simp only [List.take_succ_cons, List.take_zero, List.drop_zero, List.drop_succ_cons]; simp only [List.map_cons, List.map_nil, bv_length, List.length_cons, List.length_nil, List.length_replicate, hsl398_4, hsl398_5, hsl398_8, hsl398_9, hsl398_12, hsl398_13, hsl398_14, hsl398_17, hsl398_18, hsl398_19, hsl398_22, hsl398_23, hsl398_24, hsl398_27, hsl398_28, hsl398_29]) (by decide) rfl (one_fl ⟨one1 rfl, one1 rfl, one1 rfl, one1 rfl, bv_one _, bv_one _, one1 rfl, one1 rfl, bv_one _, bv_one _, one1 rfl, one1 rfl, bv_one _, bv_one _, bv_one _, one1 rfl, one1 rfl, bv_one _, bv_one _, bv_one _, one1 rfl, one1 rfl, bv_one _, bv_one _, bv_one _, one1 rfl, one1 rfl, bv_one _, bv_one _, bv_one _, trivial⟩) rfl (by intro X h; cases h) ?_; intro w6 hM'; clear hM; have hM := hM'; clear hM'
    try simp only [List.take_zero, List.take_succ_cons, List.drop_zero, List.drop_succ_cons, List.take_nil, List.drop_nil, List.nil_append, List.append_nil, List.cons_append] at hM
    refine s_assign hE rfl rfl ?_; clear hE a; intro a hE
    refine q_nil ?_
    replace hE : Env a 92 [(1, _), (2, _), (4, _), (5, _), (6, _), (9, _), (10, _), (29, _), (31, _)] := hE.sel [1, 2, 4, 5, 6, 9, 10, 29, 31] rfl
    refine hK8 _ _ ?_
    refine wp_seq_k (fun K9 hK9 => ?_)
    refine wp_seq_k (fun K10 hK10 => ?_)
    refine wp_plain [true, true] rfl rfl ?_
    refine s_move hE rfl rfl ?_; clear hE a; intro a hE
    refine s_bin hE rfl rfl bin_neq rfl ?_; clear hE a; intro a hE
    refine q_nil ?_
    replace hE : Env a 92 [(1, _), (2, _), (4, _), (5, _), (6, _), (9, _), (29, _), (31, _), (55, _)] := hE.sel [1, 2, 4, 5, 6, 9, 29, 31, 55] rfl
    refine hK10 _ _ ?_
    refine hE.split 55 rfl (fun hb55 hE' => ?_) (fun hb55 hE' => ?_)
    · replace hE := hE'; clear hE'
      replace hb55 := of_decide_eq_false (not_true hb55)
      replace hb55 : ¬ ((getEH (ls.take (min ls.length 20))) = 0) := by omega
      have hzz := getE_nz hb55
      refine wp_cond_true (hE.eval rfl) ?_
      refine wp_seq_k (fun K11 hK11 => ?_)
      refine wp_plain [true, true, true, true, false, true, true] rfl rfl ?_
      refine s_loadN hE rfl (hM.get 0 rfl) row39 rfl (by intro X h; cases h) rfl ?_; clear hE a; intro a hE
      replace hE := hE.cast 56 rfl (show _ = Value.agg ([[.int .i64 ((getHH (ls.take (min ls.length 20))).m)], [.int .i64 ((getHH (ls.take (min ls.length 20))).r)], [.bool ((getHH (ls.take (min ls.length 20))).v0.1)], [.int .u64 (((getHH (ls.take (min ls.length 20))).v0.2.1 : Nat) : Int)], bv ((getHH (ls.take (min ls.length 20))).v0.2.2.1), bv ((getHH (ls.take (min ls.length 20))).v0.2.2.2), [.bool ((getHH (ls.take (min ls.length 20))).v1.1)], [.int .u64 (((getHH (ls.take (min ls.length 20))).v1.2.1 : Nat) : Int)], bv ((getHH (ls.take (min ls.length 20))).v1.2.2.1), bv ((getHH (ls.take (min ls.length 20))).v1.2.2.2), [.bool ((getHH (ls.take (min ls.length 20))).s0.1)], [.int .i64 ((getHH (ls.take (min ls.length 20))).s0.2.1)], bv ((getHH (ls.take (min ls.length 20))).s0.2.2.1), bv ((getHH (ls.take (min ls.length 20))).s0.2.2.2.1), bv ((getHH (ls.take (min ls.length 20))).s0.2.2.2.2), [.bool ((getHH (ls.take (min ls.length 20))).s1.1)], [.int .i64 ((getHH (ls.take (min ls.length 20))).s1.2.1)], bv ((getHH (ls.take (min ls.length 20))).s1.2.2.1), bv ((getHH (ls.take (min ls.length 20))).s1.2.2.2.1), bv ((getHH (ls.take (min ls.length 20))).s1.2.2.2.2), [.bool ((getHH (ls.take (min ls.length 20))).s2.1)], [.int .i64 ((getHH (ls.take (min ls.length 20))).s2.2.1)], bv ((getHH (ls.take (min ls.length 20))).s2.2.2.1), bv ((getHH (ls.take (min ls.length 20))).s2.2.2.2.1), bv ((getHH (ls.take (min ls.length 20))).s2.2.2.2.2), [.bool ((getHH (ls.take (min ls.length 20))).s3.1)], [.int .i64 ((getHH (ls.take (min ls.length 20))).s3.2.1)], bv ((getHH (ls.take (min ls.length 20))).s3.2.2.1), bv ((getHH (ls.take (min ls.length 20))).s3.2.2.2.1), bv ((getHH (ls.take (min ls.length 20))).s3.2.2.2.2)] : List (List Value)).flatten.toArray from (by first | rfl | simp only [List.flatten_cons, List.flatten_nil, List.append_nil, List.append_assoc]))
      refine s_buildS [] hE rfl zero39 (by kernel_rfl) fpl39 (by first | (simp [PartsOk, Value.cells]; done) | (simp [PartsOk, Value.cells]; omega)) rfl ?_; clear hE a; intro a hE
      replace hE := hE.cast 57 rfl (show _ = Value.agg ([[.int .i64 0], [.int .i64 0], [.bool false], [.int .u64 0], bv (List.replicate 32 (0 : UInt8)), bv (List.replicate 32 (0 : UInt8)), [.bool false], [.int .u64 0], bv (List.replicate 32 (0 : UInt8)), bv (List.replicate 32 (0 : UInt8)), [.bool false], [.int .i64 0], bv (List.replicate 16 (0 : UInt8)), bv (List.replicate 32 (0 : UInt8)), bv (List.replicate 32 (0 : UInt8)), [.bool false], [.int .i64 0], bv (List.replicate 16 (0 : UInt8)), bv (List.replicate 32 (0 : UInt8)), bv (List.replicate 32 (0 : UInt8)), [.bool false], [.int .i64 0], bv (List.replicate 16 (0 : UInt8)), bv (List.replicate 32 (0 : UInt8)), bv (List.replicate 32 (0 : UInt8)), [.bool false], [.int .i64 0], bv (List.replicate 16 (0 : UInt8)), bv (List.replicate 32 (0 : UInt8)), bv (List.replicate 32 (0 : UInt8))] : List (List Value)).flatten.toArray from (by first | rfl | simp [setAll] | (simp only [setAll, List.set_cons_zero, List.set_cons_succ, List.flatten_cons, List.flatten_nil, List.append_nil, List.append_assoc, List.replicate_succ, List.replicate_zero])))
      refine s_bin hE rfl rfl ((eqk39 (b := decide ((((getHH (ls.take (min ls.length 20))).m) : Int) = 0 ∧ (((getHH (ls.take (min ls.length 20))).r) : Int) = 0 ∧ ((getHH (ls.take (min ls.length 20))).v0.1) = false ∧ ((((getHH (ls.take (min ls.length 20))).v0.2.1 : Nat) : Int) : Int) = 0 ∧ ((getHH (ls.take (min ls.length 20))).v0.2.2.1) = (List.replicate 32 (0 : UInt8)) ∧ ((getHH (ls.take (min ls.length 20))).v0.2.2.2) = (List.replicate 32 (0 : UInt8)) ∧ ((getHH (ls.take (min ls.length 20))).v1.1) = false ∧ ((((getHH (ls.take (min ls.length 20))).v1.2.1 : Nat) : Int) : Int) = 0 ∧ ((getHH (ls.take (min ls.length 20))).v1.2.2.1) = (List.replicate 32 (0 : UInt8)) ∧ ((getHH (ls.take (min ls.length 20))).v1.2.2.2) = (List.replicate 32 (0 : UInt8)) ∧ ((getHH (ls.take (min ls.length 20))).s0.1) = false ∧ (((getHH (ls.take (min ls.length 20))).s0.2.1) : Int) = 0 ∧ ((getHH (ls.take (min ls.length 20))).s0.2.2.1) = (List.replicate 16 (0 : UInt8)) ∧ ((getHH (ls.take (min ls.length 20))).s0.2.2.2.1) = (List.replicate 32 (0 : UInt8)) ∧ ((getHH (ls.take (min ls.length 20))).s0.2.2.2.2) = (List.replicate 32 (0 : UInt8)) ∧ ((getHH (ls.take (min ls.length 20))).s1.1) = false ∧ (((getHH (ls.take (min ls.length 20))).s1.2.1) : Int) = 0 ∧ ((getHH (ls.take (min ls.length 20))).s1.2.2.1) = (List.replicate 16 (0 : UInt8)) ∧ ((getHH (ls.take (min ls.length 20))).s1.2.2.2.1) = (List.replicate 32 (0 : UInt8)) ∧ ((getHH (ls.take (min ls.length 20))).s1.2.2.2.2) = (List.replicate 32 (0 : UInt8)) ∧ ((getHH (ls.take (min ls.length 20))).s2.1) = false ∧ (((getHH (ls.take (min ls.length 20))).s2.2.1) : Int) = 0 ∧ ((getHH (ls.take (min ls.length 20))).s2.2.2.1) = (List.replicate 16 (0 : UInt8)) ∧ ((getHH (ls.take (min ls.length 20))).s2.2.2.2.1) = (List.replicate 32 (0 : UInt8)) ∧ ((getHH (ls.take (min ls.length 20))).s2.2.2.2.2) = (List.replicate 32 (0 : UInt8)) ∧ ((getHH (ls.take (min ls.length 20))).s3.1) = false ∧ (((getHH (ls.take (min ls.length 20))).s3.2.1) : Int) = 0 ∧ ((getHH (ls.take (min ls.length 20))).s3.2.2.1) = (List.replicate 16 (0 : UInt8)) ∧ ((getHH (ls.take (min ls.length 20))).s3.2.2.2.1) = (List.replicate 32 (0 : UInt8)) ∧ ((getHH (ls.take (min ls.length 20))).s3.2.2.2.2) = (List.replicate 32 (0 : UInt8)))) (klL39 (k := 0) (x0 := ((getHH (ls.take (min ls.length 20))).m)) (x1 := ((getHH (ls.take (min ls.length 20))).r)) (x2 := (getHH (ls.take (min ls.length 20))).v0.1) (x3 := (((getHH (ls.take (min ls.length 20))).v0.2.1 : Nat) : Int)) (x4 := (getHH (ls.take (min ls.length 20))).v0.2.2.1) (x5 := (getHH (ls.take (min ls.length 20))).v0.2.2.2) (x6 := (getHH (ls.take (min ls.length 20))).v1.1) (x7 := (((getHH (ls.take (min ls.length 20))).v1.2.1 : Nat) : Int)) (x8 := (getHH (ls.take (min ls.length 20))).v1.2.2.1) (x9 := (getHH (ls.take (min ls.length 20))).v1.2.2.2) (x10 := (getHH (ls.take (min ls.length 20))).s0.1) (x11 := ((getHH (ls.take (min ls.length 20))).s0.2.1)) (x12 := (getHH (ls.take (min ls.length 20))).s0.2.2.1) (x13 := (getHH (ls.take (min ls.length 20))).s0.2.2.2.1) (x14 := (getHH (ls.take (min ls.length 20))).s0.2.2.2.2) (x15 := (getHH (ls.take (min ls.length 20))).s1.1) (x16 := ((getHH (ls.take (min ls.length 20))).s1.2.1)) (x17 := (getHH (ls.take (min ls.length 20))).s1.2.2.1) (x18 := (getHH (ls.take (min ls.length 20))).s1.2.2.2.1) (x19 := (getHH (ls.take (min ls.length 20))).s1.2.2.2.2) (x20 := (getHH (ls.take (min ls.length 20))).s2.1) (x21 := ((getHH (ls.take (min ls.length 20))).s2.2.1)) (x22 := (getHH (ls.take (min ls.length 20))).s2.2.2.1) (x23 := (getHH (ls.take (min ls.length 20))).s2.2.2.2.1) (x24 := (getHH (ls.take (min ls.length 20))).s2.2.2.2.2) (x25 := (getHH (ls.take (min ls.length 20))).s3.1) (x26 := ((getHH (ls.take (min ls.length 20))).s3.2.1)) (x27 := (getHH (ls.take (min ls.length 20))).s3.2.2.1) (x28 := (getHH (ls.take (min ls.length 20))).s3.2.2.2.1) (x29 := (getHH (ls.take (min ls.length 20))).s3.2.2.2.2) (wf_i64 (getHH_ok (ok_take ho_ls)).m) (wf_i64 (getHH_ok (ok_take ho_ls)).r) (wf_u64 (getHH_ok (ok_take ho_ls)).v0.1) (getHH_ok (ok_take ho_ls)).v0.2.1 (getHH_ok (ok_take ho_ls)).v0.2.2 (wf_u64 (getHH_ok (ok_take ho_ls)).v1.1) (getHH_ok (ok_take ho_ls)).v1.2.1 (getHH_ok (ok_take ho_ls)).v1.2.2 (wf_i64 (getHH_ok (ok_take ho_ls)).s0.1) (getHH_ok (ok_take ho_ls)).s0.2.1 (getHH_ok (ok_take ho_ls)).s0.2.2.1 (getHH_ok (ok_take ho_ls)).s0.2.2.2 (wf_i64 (getHH_ok (ok_take ho_ls)).s1.1) (getHH_ok (ok_take ho_ls)).s1.2.1 (getHH_ok (ok_take ho_ls)).s1.2.2.1 (getHH_ok (ok_take ho_ls)).s1.2.2.2 (wf_i64 (getHH_ok (ok_take ho_ls)).s2.1) (getHH_ok (ok_take ho_ls)).s2.2.1 (getHH_ok (ok_take ho_ls)).s2.2.2.1 (getHH_ok (ok_take ho_ls)).s2.2.2.2 (wf_i64 (getHH_ok (ok_take ho_ls)).s3.1) (getHH_ok (ok_take ho_ls)).s3.2.1 (getHH_ok (ok_take ho_ls)).s3.2.2.1 (getHH_ok (ok_take ho_ls)).s3.2.2.2) (klL39 (k := 0) (x0 := 0) (x1 := 0) (x2 := false) (x3 := 0) (x4 := List.replicate 32 (0 : UInt8)) (x5 := List.replicate 32 (0 : UInt8)) (x6 := false) (x7 := 0) (x8 := List.replicate 32 (0 : UInt8)) (x9 := List.replicate 32 (0 : UInt8)) (x10 := false) (x11 := 0) (x12 := List.replicate 16 (0 : UInt8)) (x13 := List.replicate 32 (0 : UInt8)) (x14 := List.replicate 32 (0 : UInt8)) (x15 := false) (x16 := 0) (x17 := List.replicate 16 (0 : UInt8)) (x18 := List.replicate 32 (0 : UInt8)) (x19 := List.replicate 32 (0 : UInt8)) (x20 := false) (x21 := 0) (x22 := List.replicate 16 (0 : UInt8)) (x23 := List.replicate 32 (0 : UInt8)) (x24 := List.replicate 32 (0 : UInt8)) (x25 := false) (x26 := 0) (x27 := List.replicate 16 (0 : UInt8)) (x28 := List.replicate 32 (0 : UInt8)) (x29 := List.replicate 32 (0 : UInt8)) (by first | exact wf_i64 (by assumption) | (simp [Lit.wf, IntKind.min, IntKind.max, IntKind.signed, IntKind.bits]; try omega)) (by first | exact wf_i64 (by assumption) | (simp [Lit.wf, IntKind.min, IntKind.max, IntKind.signed, IntKind.bits]; try omega)) (by first | exact wf_i64 (by assumption) | (simp [Lit.wf, IntKind.min, IntKind.max, IntKind.signed, IntKind.bits]; try omega)) List.length_replicate List.length_replicate (by first | exact wf_i64 (by assumption) | (simp [Lit.wf, IntKind.min, IntKind.max, IntKind.signed, IntKind.bits]; try omega)) List.length_replicate List.length_replicate (by first | exact wf_i64 (by assumption) | (simp [Lit.wf, IntKind.min, IntKind.max, IntKind.signed, IntKind.bits]; try omega)) List.length_replicate List.length_replicate List.length_replicate (by first | exact wf_i64 (by assumption) | (simp [Lit.wf, IntKind.min, IntKind.max, IntKind.signed, IntKind.bits]; try omega)) List.length_replicate List.length_replicate List.length_replicate (by first | exact wf_i64 (by assumption) | (simp [Lit.wf, IntKind.min, IntKind.max, IntKind.signed, IntKind.bits]; try omega)) List.length_replicate List.length_replicate List.length_replicate (by first | exact wf_i64 (by assumption) | (simp [Lit.wf, IntKind.min, IntKind.max, IntKind.signed, IntKind.bits]; try omega)) List.length_replicate List.length_replicate List.length_replicate) (by rw [flat_eq (by have hl_x4 : ((getHH (ls.take (min ls.length 20))).v0.2.2.1).length = 32 := (getHH_ok (ok_take ho_ls)).v0.2.1; have hl_x5 : ((getHH (ls.take (min ls.length 20))).v0.2.2.2).length = 32 := (getHH_ok (ok_take ho_ls)).v0.2.2; have hl_x8 : ((getHH (ls.take (min ls.length 20))).v1.2.2.1).length = 32 := (getHH_ok (ok_take ho_ls)).v1.2.1; have hl_x9 : ((getHH (ls.take (min ls.length 20))).v1.2.2.2).length = 32 := (getHH_ok (ok_take ho_ls)).v1.2.2; have hl_x12 : ((getHH (ls.take (min ls.length 20))).s0.2.2.1).length = 16 := (getHH_ok (ok_take ho_ls)).s0.2.1; have hl_x13 : ((getHH (ls.take (min ls.length 20))).s0.2.2.2.1).length = 32 := (getHH_ok (ok_take ho_ls)).s0.2.2.1; have hl_x14 : ((getHH (ls.take (min ls.length 20))).s0.2.2.2.2).length = 32 := (getHH_ok (ok_take ho_ls)).s0.2.2.2; have hl_x17 : ((getHH (ls.take (min ls.length 20))).s1.2.2.1).length = 16 := (getHH_ok (ok_take ho_ls)).s1.2.1; have hl_x18 : ((getHH (ls.take (min ls.length 20))).s1.2.2.2.1).length = 32 := (getHH_ok (ok_take ho_ls)).s1.2.2.1; have hl_x19 : ((getHH (ls.take (min ls.length 20))).s1.2.2.2.2).length = 32 := (getHH_ok (ok_take ho_ls)).s1.2.2.2; have hl_x22 : ((getHH (ls.take (min ls.length 20))).s2.2.2.1).length = 16 := (getHH_ok (ok_take ho_ls)).s2.2.1; have hl_x23 : ((getHH (ls.take (min ls.length 20))).s2.2.2.2.1).length = 32 := (getHH_ok (ok_take ho_ls)).s2.2.2.1; have hl_x24 : ((getHH (ls.take (min ls.length 20))).s2.2.2.2.2).length = 32 := (getHH_ok (ok_take ho_ls)).s2.2.2.2; have hl_x27 : ((getHH (ls.take (min ls.length 20))).s3.2.2.1).length = 16 := (getHH_ok (ok_take ho_ls)).s3.2.1; have hl_x28 : ((getHH (ls.take (min ls.length 20))).s3.2.2.2.1).length = 32 := (getHH_ok (ok_take ho_ls)).s3.2.2.1; have hl_x29 : ((getHH (ls.take (min ls.length 20))).s3.2.2.2.2).length = 32 := (getHH_ok (ok_take ho_ls)).s3.2.2.2; have hl_y4 : (List.replicate 32 (0 : UInt8)).length = 32 := List.length_replicate; have hl_y5 : (List.replicate 32 (0 : UInt8)).length = 32 := List.length_replicate; have hl_y8 : (List.replicate 32 (0 : UInt8)).length = 32 := List.length_replicate; have hl_y9 : (List.replicate 32 (0 : UInt8)).length = 32 := List.length_replicate; have hl_y12 : (List.replicate 16 (0 : UInt8)).length = 16 := List.length_replicate; have hl_y13 : (List.replicate 32 (0 : UInt8)).length = 32 := List.length_replicate; have hl_y14 : (List.replicate 32 (0 : UInt8)).length = 32 := List.length_replicate; have hl_y17 : (List.replicate 16 (0 : UInt8)).length = 16 := List.length_replicate; have hl_y18 : (List.replicate 32 (0 : UInt8)).length = 32 := List.length_replicate; have hl_y19 : (List.replicate 32 (0 : UInt8)).length = 32 := List.length_replicate; have hl_y22 : (List.replicate 16 (0 : UInt8)).length = 16 := List.length_replicate; have hl_y23 : (List.replicate 32 (0 : UInt8)).length = 32 := List.length_replicate; have hl_y24 : (List.replicate 32 (0 : UInt8)).length = 32 := List.length_replicate; have hl_y27 : (List.replicate 16 (0 : UInt8)).length = 16 := List.length_replicate; have hl_y28 : (List.replicate 32 (0 : UInt8)).length = 32 := List.length_replicate; have hl_y29 : (List.replicate 32 (0 : UInt8)).length = 32 := List.length_replicate; simp only [List.map_cons, List.map_nil, bv_length, List.length_cons, List.length_nil, hl_x4, hl_x5, hl_x8, hl_x9, hl_x12, hl_x13, hl_x14, hl_x17, hl_x18, hl_x19, hl_x22, hl_x23, hl_x24, hl_x27, hl_x28, hl_x29, hl_y4, hl_y5, hl_y8, hl_y9, hl_y12, hl_y13, hl_y14, hl_y17, hl_y18, hl_y19, hl_y22, hl_y23, hl_y24, hl_y27, hl_y28, hl_y29])]; simp [bv_iff, Int.ofNat_inj]; try omega)).1) rfl ?_; clear hE a; intro a hE
      refine s_move hE rfl rfl ?_; clear hE a; intro a hE
      replace hE := hE.cast 59 rfl (show _ = Value.bool true from (congrArg Value.bool (by first | rfl | (rw [hzz]; rfl) | (rw [hzz]; decide +kernel))))
      refine g_yes hE rfl rfl ?_
      refine s_call hE rfl Try.call13 (works24_c  _ ) rfl ?_
      rintro e w7 ⟨rfl, hN⟩
      refine ⟨_, rfl, trivial, ?_⟩; clear hE a; intro a hE
      replace hM : Mem _ _ w7 [_, _, _, _, _] := hM.call0 hN trivial; clear hN
      refine s_pickt hE rfl rfl rfl ?_; clear hE a; intro a hE
      refine s_assign hE rfl rfl ?_; clear hE a; intro a hE
      refine q_nil ?_
      replace hE : Env a 92 [(1, _), (2, _), (4, _), (5, _), (6, _), (9, _), (29, _), (31, _), (55, _)] := hE.sel [1, 2, 4, 5, 6, 9, 29, 31, 55] rfl
      refine hK11 _ _ ?_
      refine wp_ret ?_
      refine q_then_r ?_
      refine f_ret1 hE rfl rfl ?_
      exact ⟨(by first | rfl | (simp; done)), hM.pick [] rfl⟩
    · replace hE := hE'; clear hE'
      replace hb55 := of_decide_eq_true (not_false' hb55)
      replace hb55 : (getEH (ls.take (min ls.length 20))) = 0 := by omega
      have hge : getEH (ls.take (min ls.length 20)) = 0 := by omega
      obtain ⟨hgp, hgc⟩ := get_put (ok_take ho_ls) hge
      refine wp_cond_false (hE.eval rfl) ?_
      refine wp_skip ?_
      refine hK9 _ _ ?_
      refine wp_seq_k (fun K11 hK11 => ?_)
      refine wp_plain [true, false, true, true, true, true, true] rfl rfl ?_
      refine s_loadN hE rfl (hM.get 0 rfl) row39 rfl (by intro X h; cases h) rfl ?_; clear hE a; intro a hE
      replace hE := hE.cast 63 rfl (show _ = Value.agg ([[.int .i64 ((getHH (ls.take (min ls.length 20))).m)], [.int .i64 ((getHH (ls.take (min ls.length 20))).r)], [.bool ((getHH (ls.take (min ls.length 20))).v0.1)], [.int .u64 (((getHH (ls.take (min ls.length 20))).v0.2.1 : Nat) : Int)], bv ((getHH (ls.take (min ls.length 20))).v0.2.2.1), bv ((getHH (ls.take (min ls.length 20))).v0.2.2.2), [.bool ((getHH (ls.take (min ls.length 20))).v1.1)], [.int .u64 (((getHH (ls.take (min ls.length 20))).v1.2.1 : Nat) : Int)], bv ((getHH (ls.take (min ls.length 20))).v1.2.2.1), bv ((getHH (ls.take (min ls.length 20))).v1.2.2.2), [.bool ((getHH (ls.take (min ls.length 20))).s0.1)], [.int .i64 ((getHH (ls.take (min ls.length 20))).s0.2.1)], bv ((getHH (ls.take (min ls.length 20))).s0.2.2.1), bv ((getHH (ls.take (min ls.length 20))).s0.2.2.2.1), bv ((getHH (ls.take (min ls.length 20))).s0.2.2.2.2), [.bool ((getHH (ls.take (min ls.length 20))).s1.1)], [.int .i64 ((getHH (ls.take (min ls.length 20))).s1.2.1)], bv ((getHH (ls.take (min ls.length 20))).s1.2.2.1), bv ((getHH (ls.take (min ls.length 20))).s1.2.2.2.1), bv ((getHH (ls.take (min ls.length 20))).s1.2.2.2.2), [.bool ((getHH (ls.take (min ls.length 20))).s2.1)], [.int .i64 ((getHH (ls.take (min ls.length 20))).s2.2.1)], bv ((getHH (ls.take (min ls.length 20))).s2.2.2.1), bv ((getHH (ls.take (min ls.length 20))).s2.2.2.2.1), bv ((getHH (ls.take (min ls.length 20))).s2.2.2.2.2), [.bool ((getHH (ls.take (min ls.length 20))).s3.1)], [.int .i64 ((getHH (ls.take (min ls.length 20))).s3.2.1)], bv ((getHH (ls.take (min ls.length 20))).s3.2.2.1), bv ((getHH (ls.take (min ls.length 20))).s3.2.2.2.1), bv ((getHH (ls.take (min ls.length 20))).s3.2.2.2.2)] : List (List Value)).flatten.toArray from (by first | rfl | simp only [List.flatten_cons, List.flatten_nil, List.append_nil, List.append_assoc]))
      refine s_call hE rfl Try.call8 (hput_a (getHH (ls.take (min ls.length 20))) _ (getHH_ok (ok_take ho_ls)) ) rfl ?_
      rintro e w7 ⟨v64_0, rfl, hN⟩
      refine ⟨_, rfl, trivial, ?_⟩; clear hE a; intro a hE
      replace hM : Mem _ _ w7 [_, _, _, _, _, _] := hM.call0 hN ⟨rfl, trivial⟩; clear hN
      replace hM := Mem.ownRowsEq (f := bv) (ls := putH (getHH (ls.take (min ls.length 20)))) (ms := (ls.take (min ls.length 20))) hM hgp
      refine s_move hE rfl rfl ?_; clear hE a; intro a hE
      refine s_extract hE rfl rfl rfl ?_; clear hE a; intro a hE
      refine s_extract hE rfl rfl rfl ?_; clear hE a; intro a hE
      refine s_assign hE rfl rfl ?_; clear hE a; intro a hE
      refine s_assign hE rfl rfl ?_; clear hE a; intro a hE
      refine q_nil ?_
      replace hE : Env a 92 [(1, _), (2, _), (4, _), (5, _), (6, _), (9, _), (11, _), (12, _), (29, _), (31, _), (55, _)] := hE.sel [1, 2, 4, 5, 6, 9, 11, 12, 29, 31, 55] rfl
      refine hK11 _ _ ?_
      refine wp_seq_k (fun K12 hK12 => ?_)
      refine wp_seq_k (fun K13 hK13 => ?_)
      refine wp_plain [true, true, true, true, true, true, true, true, true] rfl rfl ?_
      refine s_move hE rfl rfl ?_; clear hE a; intro a hE
      refine s_bin hE rfl rfl bin_neq rfl ?_; clear hE a; intro a hE
      refine s_move hE rfl rfl ?_; clear hE a; intro a hE
      replace hE := hE.cast 69 rfl (show _ = Value.bool false from (congrArg Value.bool (by first | rfl | (rw [hgc]; rfl))))
      refine g_yes hE rfl rfl ?_
      refine s_move hE rfl rfl ?_; clear hE a; intro a hE
      refine g_yes hE rfl rfl ?_
      refine s_len hE rfl Try.underlying40 (own_slice (hM.get 0 rfl)) rfl ?_; clear hE a; intro a hE
      refine g_yes hE rfl rfl ?_
      refine s_move hE rfl rfl ?_; clear hE a; intro a hE
      refine g_yes hE rfl rfl ?_
      refine s_len hE rfl Try.underlying40 (rd_slice (hM.get 3 rfl)) rfl ?_; clear hE a; intro a hE
      refine g_yes hE rfl rfl ?_
      refine s_bin hE rfl rfl bin_neq rfl ?_; clear hE a; intro a hE
      refine s_pickf hE rfl rfl rfl ?_; clear hE a; intro a hE
      refine q_nil ?_
      replace hE : Env a 92 [(1, _), (2, _), (4, _), (5, _), (6, _), (9, _), (11, _), (29, _), (31, _), (55, _), (75, _)] := hE.sel [1, 2, 4, 5, 6, 9, 11, 29, 31, 55, 75] rfl
      refine hK13 _ _ ?_
      replace hE := hE.cast 75 rfl (show _ = Value.bool false from (congrArg Value.bool (by first | rfl | simp)))
      refine wp_cond_false (hE.eval rfl) ?_
      refine wp_skip ?_
      refine hK12 _ _ ?_
      refine wp_seq_k (fun K14 hK14 => ?_)
      refine wp_seq_k (fun K15 hK15 => ?_)
      refine wp_plain [true] rfl rfl ?_
      refine s_assign hE rfl rfl ?_; clear hE a; intro a hE
      refine q_nil ?_
      refine hK15 _ _ ?_
      refine wp_block ?_
      refine c_loop (fun (i : Nat) a w' => i ≤ (ls.take (min ls.length 20)).length ∧ Env a 92 [(1, v18), (2, .pointer (some ⟨b2, 0, none⟩)), (4, .bool false), (5, v21_0), (6, .int .i64 ((checkH h : Nat) : Int)), (9, .pointer (some ⟨b9, 0, none⟩)), (11, v64_0), (13, .int .i64 ((i : Nat) : Int)), (29, .bool false), (31, .bool false), (55, .bool false), (75, .bool false)] ∧ Mem w [] w' [own v64_0 64 ((ls.take (min ls.length 20)).length) ((ls.take (min ls.length 20)).flatMap bv), blk b9 [[.int .i64 ((getHH (ls.take (min ls.length 20))).m)], [.int .i64 ((getHH (ls.take (min ls.length 20))).r)], [.bool ((getHH (ls.take (min ls.length 20))).v0.1)], [.int .u64 (((getHH (ls.take (min ls.length 20))).v0.2.1 : Nat) : Int)], bv ((getHH (ls.take (min ls.length 20))).v0.2.2.1), bv ((getHH (ls.take (min ls.length 20))).v0.2.2.2), [.bool ((getHH (ls.take (min ls.length 20))).v1.1)], [.int .u64 (((getHH (ls.take (min ls.length 20))).v1.2.1 : Nat) : Int)], bv ((getHH (ls.take (min ls.length 20))).v1.2.2.1), bv ((getHH (ls.take (min ls.length 20))).v1.2.2.2), [.bool ((getHH (ls.take (min ls.length 20))).s0.1)], [.int .i64 ((getHH (ls.take (min ls.length 20))).s0.2.1)], bv ((getHH (ls.take (min ls.length 20))).s0.2.2.1), bv ((getHH (ls.take (min ls.length 20))).s0.2.2.2.1), bv ((getHH (ls.take (min ls.length 20))).s0.2.2.2.2), [.bool ((getHH (ls.take (min ls.length 20))).s1.1)], [.int .i64 ((getHH (ls.take (min ls.length 20))).s1.2.1)], bv ((getHH (ls.take (min ls.length 20))).s1.2.2.1), bv ((getHH (ls.take (min ls.length 20))).s1.2.2.2.1), bv ((getHH (ls.take (min ls.length 20))).s1.2.2.2.2), [.bool ((getHH (ls.take (min ls.length 20))).s2.1)], [.int .i64 ((getHH (ls.take (min ls.length 20))).s2.2.1)], bv ((getHH (ls.take (min ls.length 20))).s2.2.2.1), bv ((getHH (ls.take (min ls.length 20))).s2.2.2.2.1), bv ((getHH (ls.take (min ls.length 20))).s2.2.2.2.2), [.bool ((getHH (ls.take (min ls.length 20))).s3.1)], [.int .i64 ((getHH (ls.take (min ls.length 20))).s3.2.1)], bv ((getHH (ls.take (min ls.length 20))).s3.2.2.1), bv ((getHH (ls.take (min ls.length 20))).s3.2.2.2.1), bv ((getHH (ls.take (min ls.length 20))).s3.2.2.2.2)] [1, 1, 1, 1, 32, 32, 1, 1, 32, 32, 1, 1, 16, 32, 32, 1, 1, 16, 32, 32, 1, 1, 16, 32, 32, 1, 1, 16, 32, 32] 39, own v21_0 64 ((putH h).length) ((putH h).flatMap bv), rd v18 64 ((ls.take (min ls.length 20)).length) (lc - 0) ((ls.take (min ls.length 20)).flatMap bv), blk b2 [[.int .i64 h.m], [.int .i64 h.r], [.bool h.v0.1], [.int .u64 ((h.v0.2.1 : Nat) : Int)], bv h.v0.2.2.1, bv h.v0.2.2.2, [.bool h.v1.1], [.int .u64 ((h.v1.2.1 : Nat) : Int)], bv h.v1.2.2.1, bv h.v1.2.2.2, [.bool h.s0.1], [.int .i64 h.s0.2.1], bv h.s0.2.2.1, bv h.s0.2.2.2.1, bv h.s0.2.2.2.2, [.bool h.s1.1], [.int .i64 h.s1.2.1], bv h.s1.2.2.1, bv h.s1.2.2.2.1, bv h.s1.2.2.2.2, [.bool h.s2.1], [.int .i64 h.s2.2.1], bv h.s2.2.2.1, bv h.s2.2.2.2.1, bv h.s2.2.2.2.2, [.bool h.s3.1], [.int .i64 h.s3.2.1], bv h.s3.2.2.1, bv h.s3.2.2.2.1, bv h.s3.2.2.2.2] [1, 1, 1, 1, 32, 32, 1, 1, 32, 32, 1, 1, 16, 32, 32, 1, 1, 16, 32, 32, 1, 1, 16, 32, 32, 1, 1, 16, 32, 32] 39, rd u 64 ls.length lc (ls.flatMap bv)]) (fun i => (ls.take (min ls.length 20)).length - i) 0 ⟨Nat.zero_le _, hE.sel [1, 2, 4, 5, 6, 9, 11, 13, 29, 31, 55, 75] rfl, hM⟩ ?_
      clear hE hM a; rintro i a w8 ⟨hi, hE, hM⟩
      refine wp_seq_k (fun K16 hK16 => ?_)
      refine wp_seq_k (fun K17 hK17 => ?_)
      refine wp_plain [true, true, true, true] rfl rfl ?_
      refine s_move hE rfl rfl ?_; clear hE a; intro a hE
      refine s_move hE rfl rfl ?_; clear hE a; intro a hE
      refine s_len hE rfl Try.underlying40 (rd_slice (hM.get 3 rfl)) rfl ?_; clear hE a; intro a hE
      refine s_bin hE rfl rfl bin_lss rfl ?_; clear hE a; intro a hE
      refine q_nil ?_
      replace hE : Env a 92 [(1, _), (2, _), (4, _), (5, _), (6, _), (9, _), (11, _), (13, _), (29, _), (31, _), (55, _), (75, _), (79, _)] := hE.sel [1, 2, 4, 5, 6, 9, 11, 13, 29, 31, 55, 75, 79] rfl
      refine hK17 _ _ ?_
      refine hE.split 79 rfl (fun hb79 hE' => ?_) (fun hb79 hE' => ?_)
      · replace hE := hE'; clear hE'
        replace hb79 := of_decide_eq_true hb79
        replace hb79 : i < ((ls.take (min ls.length 20)).length) := by omega
        replace hb79 : i < (ls.take (min ls.length 20)).length := by omega
        refine wp_cond_true (hE.eval rfl) ?_
        refine wp_skip ?_
        refine hK16 _ _ ?_
        refine wp_seq_k (fun K18 hK18 => ?_)
        refine wp_block ?_
        refine wp_seq_k (fun K19 hK19 => ?_)
        refine wp_drawnM hM (by kernel_rfl) (fun _ => False) [(0, true), (1, true), (2, true), (3, true), (4, true), (5, true), (6, true), (7, true), (8, true)] [] (by kernel_rfl) rfl ?_
        intro w9 hM' hww9; clear hM; have hM := hM'; clear hM'
        refine s_move hE rfl rfl ?_; clear hE a; intro a hE
        refine s_move hE rfl rfl ?_; clear hE a; intro a hE
        obtain ⟨cx84, hx84⟩ := own_rd (hM.get 0 rfl)
        refine s_indexRd (j := i) hE rfl hx84 rfl slt40 (by first | rfl | omega) (by first | omega | (simp at *; omega)) rfl ?_; clear hE a; intro a p84 hE hc84 hp84
        have hlj84 : i < (ls.take (min ls.length 20)).length := (by first | omega | (simp at *; omega))
        have hok84 := (ok_take ho_ls) _ (getD_mem (d := (List.replicate 64 (0 : UInt8))) hlj84)
        rw [flat_elem (d := (List.replicate 64 (0 : UInt8))) (fun x hx => ((bv_length _).trans (ok_take ho_ls x hx))) hlj84] at hc84
        refine s_loadAtN hE rfl hc84 (by rw [((bv_length _).trans hok84)]; exact row59) (by intro X h; cases h; simp) rfl ?_; clear hE a; intro a hE
        replace hE := hE.cast 85 rfl (show _ = Value.agg (bv ((ls.take (min ls.length 20)).getD i (List.replicate 64 (0 : UInt8)))).toArray from rfl)
        refine s_move hE rfl rfl ?_; clear hE a; intro a hE
        refine s_move hE rfl rfl ?_; clear hE a; intro a hE
        refine s_indexRd (j := i) hE rfl (hM.get 3 rfl) rfl slt40 (by first | rfl | omega) (by first | omega | (simp at *; omega)) rfl ?_; clear hE a; intro a p88 hE hc88 hp88
        have hlj88 : i < (ls.take (min ls.length 20)).length := (by first | omega | (simp at *; omega))
        have hok88 := (ok_take ho_ls) _ (getD_mem (d := (List.replicate 64 (0 : UInt8))) hlj88)
        rw [flat_elem (d := (List.replicate 64 (0 : UInt8))) (fun x hx => ((bv_length _).trans (ok_take ho_ls x hx))) hlj88] at hc88
        refine s_loadAtN hE rfl hc88 (by rw [((bv_length _).trans hok88)]; exact row59) (by intro X h; cases h; simp) rfl ?_; clear hE a; intro a hE
        replace hE := hE.cast 89 rfl (show _ = Value.agg (bv ((ls.take (min ls.length 20)).getD i (List.replicate 64 (0 : UInt8)))).toArray from rfl)
        refine s_bin hE rfl rfl (eqa59 (by first | assumption | (simp; done) | (simp [*]; done)) (by first | assumption | (simp; done) | (simp [*]; done))).2 rfl ?_; clear hE a; intro a hE
        refine q_nil ?_
        replace hE : Env a 92 [(1, _), (2, _), (4, _), (5, _), (6, _), (9, _), (11, _), (13, _), (29, _), (31, _), (55, _), (75, _), (79, _), (90, _)] := hE.sel [1, 2, 4, 5, 6, 9, 11, 13, 29, 31, 55, 75, 79, 90] rfl
        refine hK19 _ _ ?_
        replace hE := hE.cast 90 rfl (show _ = Value.bool false from (congrArg Value.bool (by first | rfl | simp)))
        refine wp_cond_false (hE.eval rfl) ?_
        refine wp_skip ?_
        refine q_block_n ?_
        refine hK18 _ _ ?_
        refine wp_plain [true, true, true] rfl rfl ?_
        refine s_move hE rfl rfl ?_; clear hE a; intro a hE
        refine s_bin hE rfl rfl (show Bin _ _ _ _ _ (.int .i64 ((i + 1 : Nat) : Int)) from bin_add (by rw [wrap_i64 (by omega) (by omega)]; omega)) rfl ?_; clear hE a; intro a hE
        refine s_assign hE rfl rfl ?_; clear hE a; intro a hE
        refine q_nil ?_
        replace hE : Env a 92 [(1, _), (2, _), (4, _), (5, _), (6, _), (9, _), (11, _), (13, _), (29, _), (31, _), (55, _), (75, _), (79, _), (90, _)] := hE.sel [1, 2, 4, 5, 6, 9, 11, 13, 29, 31, 55, 75, 79, 90] rfl
        replace hE := hE.cast 13 rfl (show _ = Value.int .i64 (((i + 1) : Nat) : Int) from (congrArg _ (by omega)))
        replace hM : Mem _ _ w9 [_, _, _, _, _, _] := hM.pick [0, 1, 2, 3, 4, 5] rfl
        exact ⟨i + 1, ⟨by omega, hE.sel [1, 2, 4, 5, 6, 9, 11, 13, 29, 31, 55, 75] rfl, hM⟩, by omega⟩
      · replace hE := hE'; clear hE'
        replace hb79 := of_decide_eq_false hb79
        replace hb79 : ¬ (i < ((ls.take (min ls.length 20)).length)) := by omega
        obtain rfl : (ls.take (min ls.length 20)).length = i := by omega
        refine wp_cond_false (hE.eval rfl) ?_
        refine wp_exit ?_
        refine q_then_e ?_
        refine q_then_e ?_
        refine q_block_x ?_
        refine hK14 _ _ ?_
        refine wp_seq_k (fun K18 hK18 => ?_)
        refine wp_plain [false, true] rfl rfl ?_
        refine s_call hE rfl Try.call13 (works24_c  _ ) rfl ?_
        rintro e w9 ⟨rfl, hN⟩
        refine ⟨_, rfl, trivial, ?_⟩; clear hE a; intro a hE
        replace hM : Mem _ _ w9 [_, _, _, _, _, _] := hM.call0 hN trivial; clear hN
        refine s_assign hE rfl rfl ?_; clear hE a; intro a hE
        refine q_nil ?_
        replace hE : Env a 92 [(1, _), (2, _), (4, _), (5, _), (6, _), (9, _), (11, _), (13, _), (29, _), (31, _), (55, _), (75, _), (79, _)] := hE.sel [1, 2, 4, 5, 6, 9, 11, 13, 29, 31, 55, 75, 79] rfl
        refine hK18 _ _ ?_
        refine wp_ret ?_
        refine f_ret1 hE rfl rfl ?_
        exact ⟨(by first | rfl | (simp; done)), hM.pick [] rfl⟩
set_option maxRecDepth 100000 in
theorem headerBack_lifted (os : Os) (started : os.Started) (H : Type) (enc : TypeId × Value → H) :
    ReturnsInHanded {} Try.checked os 5 .any (Rows.headerBackSpec.pre6 enc Try.prog Try.f5 Rows.headerBackRow.domain false) (Rows.headerBackSpec.post enc Try.prog Try.f5 false true false false) := by
  refine law_lifted (C := Try.checked) (fn := Try.f5) (by kernel_rfl) started (by kernel_rfl) Try.func5 rfl (fun ds hl => ?_) rfl Try.underlying4 (by kernel_rfl) (of_decide_eq_true (by kernel_rfl)) (ChangeSpec.witness6 (enc := enc) (C := Try.checked) false ⟨#[], #[.agg ([[.int .i64 0], [.int .i64 0]] ++ [[.bool false], [.int .u64 0], bv (List.replicate 64 0)] ++ [[.bool false], [.int .u64 0], bv (List.replicate 64 0)] ++ (List.replicate 4 [[.bool false], [.int .i64 0], bv (List.replicate 80 0)]).flatten : List (List Value)).flatten.toArray, .slice none 0 0], []⟩ 8 (by kernel_rfl) (by kernel_rfl) (by kernel_rfl) (by kernel_rfl)) ?_
  · rw [Try.params5] at hl
    match ds, hl with
    | [_, _], _ => rfl
  · intro W base args ds ps hval hA hw
    rw [Try.params5] at hA hval hw
    obtain ⟨v0, vs0, d0, ds0, p0, q0, hargs, rfl, rfl, h0, r0⟩ := trodAll_cons hA
    obtain ⟨v1, vs1, d1, ds1, p1, q1, rfl, rfl, rfl, h1, r1⟩ := trodAll_cons r0
    obtain ⟨rfl, rfl, rfl⟩ := trodAll_nil r1
    obtain rfl : args = #[v0, v1] := by cases args; simp_all
    obtain ⟨hd0, rfl, hk0⟩ := arg_hd (⟨39, 23, 32, 31, 37, 36, 29, 26, 27, 34, 3, 4, 24, 5, _, _, _, _, _, Try.underlying39, Try.underlying23, Try.underlying32, Try.underlying31, Try.underlying37, Try.underlying36, Try.underlying29, Try.underlying26, Try.underlying27, Try.underlying34, Try.underlying3, Try.underlying4, Try.underlying24, Try.underlying5, by kernel_rfl, by kernel_rfl, by kernel_rfl, by kernel_rfl, by kernel_rfl, by kernel_rfl, by kernel_rfl, by kernel_rfl, by kernel_rfl, by kernel_rfl, by kernel_rfl, by kernel_rfl, by kernel_rfl, by kernel_rfl, by kernel_rfl, by kernel_rfl⟩ : HdT Try.prog) (hval 0 39 v0 rfl rfl) h0 (fun m hm => hw m (by simp only [DataW.weightsEach, List.mem_append]; exact .inl hm))
    rw [hd_cells hd0]
    obtain ⟨ls1, k1, hr1, ho1, hn1⟩ := arg_rowsB (es := 64) (by_ := 64) Try.underlying40 (by kernel_rfl) (by kernel_rfl) (by decide) (by decide) (dec_secs Try.underlying59 Try.underlying5 (by kernel_rfl) (by kernel_rfl)) (hval 1 40 v1 rfl rfl) h1 (fun m hm => hw m (by simp only [DataW.weightsEach, List.mem_append]; exact .inr (.inl hm)))
    exact headerBack_c hd0 v1 ls1 k1 W hr1 ho1 hk0

/-- The statement. -/
theorem headerBack_holds : Rows.HeaderBackSaid :=
  OpenClaim.holds_of_wide 5 Try.f5 rfl rfl rfl rfl rfl rfl rfl ⟨rfl, rfl, rfl, rfl, rfl⟩ rfl rfl rfl rfl rfl (by kernel_rfl) Try.func5 (by kernel_rfl)
    (of_decide_eq_true (by kernel_rfl)) (by unfold Func.isWrapper; first | (rw [if_pos (by decide +kernel)]; kernel_rfl) | (rw [if_neg (by decide +kernel)]; exact ⟨rfl, rfl⟩))
    (fun os started H enc _ => headerBack_lifted os started H enc)
#print axioms headerBack_holds
end Go.Proofs.Ytamjaacddbecaaa
