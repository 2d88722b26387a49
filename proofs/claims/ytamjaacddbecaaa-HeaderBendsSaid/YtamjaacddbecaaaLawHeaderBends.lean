/- HeaderBends of casematelaw24 returns true for whatever header and bytes that are turned. No condition. -/
import Derived.Test.YtamjaacddbecaaaLl
set_option linter.unusedSimpArgs false
set_option linter.unusedVariables false
namespace Go.Proofs.Ytamjaacddbecaaa
open Go Go.Kx
open Go.ChangeShapes Go.WideShapes Go.ChangeAt Go.RowKit
theorem slt62 : slT Try.prog 62 = some 2 := by kernel_rfl
theorem arr64 : arrT Try.prog 64 = some (2, 1) := by kernel_rfl
theorem one63 : OneT Try.prog 63 := OneT.of Try.underlying63 rfl (by kernel_rfl)
theorem sz5 : (Try.prog.info? 5).map (·.size) = some 1 := by kernel_rfl
theorem eqa59 : ∀ {a b : List UInt8}, a.length = 64 → b.length = 64 → Bin Try.prog .eql 59 (.agg (bv a).toArray) (.agg (bv b).toArray) (.bool (decide (a = b))) ∧ Bin Try.prog .neq 59 (.agg (bv a).toArray) (.agg (bv b).toArray) (.bool (!decide (a = b))) := fun ha hb => bins_arr8 Try.underlying59 (by kernel_rfl) Try.underlying5 (by kernel_rfl) (by kernel_rfl) ha hb
theorem hd_leaves (x h : Hd) : ((x.m : Int) = h.m ∧ (x.r : Int) = h.r ∧ x.v0.1 = h.v0.1 ∧ (((x.v0.2.1 : Nat) : Int) : Int) = ((h.v0.2.1 : Nat) : Int) ∧ x.v0.2.2.1 = h.v0.2.2.1 ∧ x.v0.2.2.2 = h.v0.2.2.2 ∧ x.v1.1 = h.v1.1 ∧ (((x.v1.2.1 : Nat) : Int) : Int) = ((h.v1.2.1 : Nat) : Int) ∧ x.v1.2.2.1 = h.v1.2.2.1 ∧ x.v1.2.2.2 = h.v1.2.2.2 ∧ x.s0.1 = h.s0.1 ∧ (x.s0.2.1 : Int) = h.s0.2.1 ∧ x.s0.2.2.1 = h.s0.2.2.1 ∧ x.s0.2.2.2.1 = h.s0.2.2.2.1 ∧ x.s0.2.2.2.2 = h.s0.2.2.2.2 ∧ x.s1.1 = h.s1.1 ∧ (x.s1.2.1 : Int) = h.s1.2.1 ∧ x.s1.2.2.1 = h.s1.2.2.1 ∧ x.s1.2.2.2.1 = h.s1.2.2.2.1 ∧ x.s1.2.2.2.2 = h.s1.2.2.2.2 ∧ x.s2.1 = h.s2.1 ∧ (x.s2.2.1 : Int) = h.s2.2.1 ∧ x.s2.2.2.1 = h.s2.2.2.1 ∧ x.s2.2.2.2.1 = h.s2.2.2.2.1 ∧ x.s2.2.2.2.2 = h.s2.2.2.2.2 ∧ x.s3.1 = h.s3.1 ∧ (x.s3.2.1 : Int) = h.s3.2.1 ∧ x.s3.2.2.1 = h.s3.2.2.1 ∧ x.s3.2.2.2.1 = h.s3.2.2.2.1 ∧ x.s3.2.2.2.2 = h.s3.2.2.2.2) ↔ x = h := by
  constructor
  · intro e
    obtain ⟨xm, xr, ⟨x00, x01, x02, x03⟩, ⟨x10, x11, x12, x13⟩, ⟨y00, y01, y02, y03, y04⟩, ⟨y10, y11, y12, y13, y14⟩, ⟨y20, y21, y22, y23, y24⟩, ⟨y30, y31, y32, y33, y34⟩⟩ := x
    obtain ⟨um, ur, ⟨u00, u01, u02, u03⟩, ⟨u10, u11, u12, u13⟩, ⟨v00, v01, v02, v03, v04⟩, ⟨v10, v11, v12, v13, v14⟩, ⟨v20, v21, v22, v23, v24⟩, ⟨v30, v31, v32, v33, v34⟩⟩ := h
    simp only [Int.ofNat_inj] at e
    obtain ⟨rfl, rfl, rfl, rfl, rfl, rfl, rfl, rfl, rfl, rfl, rfl, rfl, rfl, rfl, rfl, rfl, rfl, rfl, rfl, rfl, rfl, rfl, rfl, rfl, rfl, rfl, rfl, rfl, rfl, rfl⟩ := e
    rfl
  · rintro rfl; simp
set_option maxRecDepth 20000 in
set_option maxHeartbeats 2000000 in
theorem headerBends_c (h : Hd) (u : Value) (ls : List (Nat × Nat)) (lc : Nat) (w : World) (hr_ls : (rd u 2 ls.length lc (ls.flatMap pairC)).holds w) (ho_ls : ∀ x, x ∈ ls → OkPair x) (hk : OkHd h) : Calls Try.prog 7 #[.agg ([[.int .i64 h.m], [.int .i64 h.r], [.bool h.v0.1], [.int .u64 ((h.v0.2.1 : Nat) : Int)], bv h.v0.2.2.1, bv h.v0.2.2.2, [.bool h.v1.1], [.int .u64 ((h.v1.2.1 : Nat) : Int)], bv h.v1.2.2.1, bv h.v1.2.2.2, [.bool h.s0.1], [.int .i64 h.s0.2.1], bv h.s0.2.2.1, bv h.s0.2.2.2.1, bv h.s0.2.2.2.2, [.bool h.s1.1], [.int .i64 h.s1.2.1], bv h.s1.2.2.1, bv h.s1.2.2.2.1, bv h.s1.2.2.2.2, [.bool h.s2.1], [.int .i64 h.s2.2.1], bv h.s2.2.2.1, bv h.s2.2.2.2.1, bv h.s2.2.2.2.2, [.bool h.s3.1], [.int .i64 h.s3.2.1], bv h.s3.2.2.1, bv h.s3.2.2.2.1, bv h.s3.2.2.2.2] : List (List Value)).flatten.toArray, u] w fun e w' => e = .returned (.bool true) ∧ Mem w [] w' [] := by
  have hi0 := hk.s0.1
  have hi1 := hk.s1.1
  have hi2 := hk.s2.1
  have hi3 := hk.s3.1
  have hn0 := hk.v0.1
  have hn1 := hk.v1.1
  have hM : Mem w [] w [rd u 2 ls.length lc (ls.flatMap pairC)] := Mem.startR w (fun g hg => by
    simp only [List.mem_cons, List.not_mem_nil, or_false] at hg
    rcases hg with rfl
    · exact ⟨hr_ls, rfl⟩)
  refine f_enter 97 Try.func7 rfl rfl rfl ?_
  intro a hE
  replace hE : Env a 97 [(0, _), (1, _)] := hE
  refine wp_seq_k (fun K1 hK1 => ?_)
  refine wp_plain [false, true] rfl rfl ?_
  have hbl2_4 : h.v0.2.2.1.length = 32 := hk.v0.2.1
  have hbl2_5 : h.v0.2.2.2.length = 32 := hk.v0.2.2
  have hbl2_8 : h.v1.2.2.1.length = 32 := hk.v1.2.1
  have hbl2_9 : h.v1.2.2.2.length = 32 := hk.v1.2.2
  have hbl2_12 : h.s0.2.2.1.length = 16 := hk.s0.2.1
  have hbl2_13 : h.s0.2.2.2.1.length = 32 := hk.s0.2.2.1
  have hbl2_14 : h.s0.2.2.2.2.length = 32 := hk.s0.2.2.2
  have hbl2_17 : h.s1.2.2.1.length = 16 := hk.s1.2.1
  have hbl2_18 : h.s1.2.2.2.1.length = 32 := hk.s1.2.2.1
  have hbl2_19 : h.s1.2.2.2.2.length = 32 := hk.s1.2.2.2
  have hbl2_22 : h.s2.2.2.1.length = 16 := hk.s2.2.1
  have hbl2_23 : h.s2.2.2.2.1.length = 32 := hk.s2.2.2.1
  have hbl2_24 : h.s2.2.2.2.2.length = 32 := hk.s2.2.2.2
  have hbl2_27 : h.s3.2.2.1.length = 16 := hk.s3.2.1
  have hbl2_28 : h.s3.2.2.2.1.length = 32 := hk.s3.2.2.1
  have hbl2_29 : h.s3.2.2.2.2.length = 32 := hk.s3.2.2.2
  refine s_box (ss := [[.int .i64 h.m], [.int .i64 h.r], [.bool h.v0.1], [.int .u64 ((h.v0.2.1 : Nat) : Int)], bv h.v0.2.2.1, bv h.v0.2.2.2, [.bool h.v1.1], [.int .u64 ((h.v1.2.1 : Nat) : Int)], bv h.v1.2.2.1, bv h.v1.2.2.2, [.bool h.s0.1], [.int .i64 h.s0.2.1], bv h.s0.2.2.1, bv h.s0.2.2.2.1, bv h.s0.2.2.2.2, [.bool h.s1.1], [.int .i64 h.s1.2.1], bv h.s1.2.2.1, bv h.s1.2.2.2.1, bv h.s1.2.2.2.2, [.bool h.s2.1], [.int .i64 h.s2.2.1], bv h.s2.2.2.1, bv h.s2.2.2.2.1, bv h.s2.2.2.2.2, [.bool h.s3.1], [.int .i64 h.s3.2.1], bv h.s3.2.2.1, bv h.s3.2.2.2.1, bv h.s3.2.2.2.2]) [1, 1, 1, 1, 32, 32, 1, 1, 32, 32, 1, 1, 16, 32, 32, 1, 1, 16, 32, 32, 1, 1, 16, 32, 32, 1, 1, 16, 32, 32] hE hM rfl rfl (by simp only [List.map_cons, List.map_nil, bv_length, List.length_cons, List.length_nil, List.length_replicate, hbl2_4, hbl2_5, hbl2_8, hbl2_9, hbl2_12, hbl2_13, hbl2_14, hbl2_17, hbl2_18, hbl2_19, hbl2_22, hbl2_23, hbl2_24, hbl2_27, hbl2_28, hbl2_29]) rfl ?_; clear hE a; intro a b2 w1 hE hM'
  clear hM; have hM := hM'; clear hM'
  refine s_assign hE rfl rfl ?_; clear hE a; intro a hE
  refine q_nil ?_
  replace hE : Env a 97 [(1, _), (2, _), (4, _)] := hE.sel [1, 2, 4] rfl
  refine hK1 _ _ ?_
  refine wp_seq_k (fun K2 hK2 => ?_)
  refine wp_plain [true, false, true, true, true, true, true] rfl rfl ?_
  refine s_loadN hE rfl (hM.get 0 rfl) row39 rfl (by intro X h; cases h) rfl ?_; clear hE a; intro a hE
  replace hE := hE.cast 15 rfl (show _ = Value.agg ([[.int .i64 h.m], [.int .i64 h.r], [.bool h.v0.1], [.int .u64 ((h.v0.2.1 : Nat) : Int)], bv h.v0.2.2.1, bv h.v0.2.2.2, [.bool h.v1.1], [.int .u64 ((h.v1.2.1 : Nat) : Int)], bv h.v1.2.2.1, bv h.v1.2.2.2, [.bool h.s0.1], [.int .i64 h.s0.2.1], bv h.s0.2.2.1, bv h.s0.2.2.2.1, bv h.s0.2.2.2.2, [.bool h.s1.1], [.int .i64 h.s1.2.1], bv h.s1.2.2.1, bv h.s1.2.2.2.1, bv h.s1.2.2.2.2, [.bool h.s2.1], [.int .i64 h.s2.2.1], bv h.s2.2.2.1, bv h.s2.2.2.2.1, bv h.s2.2.2.2.2, [.bool h.s3.1], [.int .i64 h.s3.2.1], bv h.s3.2.2.1, bv h.s3.2.2.2.1, bv h.s3.2.2.2.2] : List (List Value)).flatten.toArray from (by first | rfl | simp only [List.flatten_cons, List.flatten_nil, List.append_nil, List.append_assoc]))
  refine s_call hE rfl Try.call8 (hput_a h _ hk ) rfl ?_
  rintro e w2 ⟨v16_0, rfl, hN⟩
  refine ⟨_, rfl, trivial, ?_⟩; clear hE a; intro a hE
  replace hM : Mem _ _ w2 [_, _, _] := hM.call0 hN ⟨rfl, trivial⟩; clear hN
  refine s_move hE rfl rfl ?_; clear hE a; intro a hE
  refine s_extract hE rfl rfl rfl ?_; clear hE a; intro a hE
  refine s_extract hE rfl rfl rfl ?_; clear hE a; intro a hE
  refine s_assign hE rfl rfl ?_; clear hE a; intro a hE
  refine s_assign hE rfl rfl ?_; clear hE a; intro a hE
  refine q_nil ?_
  replace hE : Env a 97 [(1, _), (2, _), (4, _), (5, _), (6, _)] := hE.sel [1, 2, 4, 5, 6] rfl
  refine hK2 _ _ ?_
  refine wp_seq_k (fun K3 hK3 => ?_)
  refine wp_seq_k (fun K4 hK4 => ?_)
  refine wp_plain [true, true] rfl rfl ?_
  refine s_move hE rfl rfl ?_; clear hE a; intro a hE
  refine s_bin hE rfl rfl bin_neq rfl ?_; clear hE a; intro a hE
  refine q_nil ?_
  replace hE : Env a 97 [(1, _), (2, _), (4, _), (5, _), (20, _)] := hE.sel [1, 2, 4, 5, 20] rfl
  refine hK4 _ _ ?_
  refine hE.split 20 rfl (fun hb20 hE' => ?_) (fun hb20 hE' => ?_)
  · replace hE := hE'; clear hE'
    replace hb20 := of_decide_eq_false (not_true hb20)
    replace hb20 : ¬ ((checkH h) = 0) := by omega
    refine wp_cond_true (hE.eval rfl) ?_
    refine wp_seq_k (fun K5 hK5 => ?_)
    refine wp_plain [false, true] rfl rfl ?_
    refine s_call hE rfl Try.call13 (works24_c  _ ) rfl ?_
    rintro e w3 ⟨rfl, hN⟩
    refine ⟨_, rfl, trivial, ?_⟩; clear hE a; intro a hE
    replace hM : Mem _ _ w3 [_, _, _] := hM.call0 hN trivial; clear hN
    refine s_assign hE rfl rfl ?_; clear hE a; intro a hE
    refine q_nil ?_
    replace hE : Env a 97 [(1, _), (2, _), (4, _), (5, _), (20, _)] := hE.sel [1, 2, 4, 5, 20] rfl
    refine hK5 _ _ ?_
    refine wp_ret ?_
    refine q_then_r ?_
    refine f_ret1 hE rfl rfl ?_
    exact ⟨(by first | rfl | (simp; done)), hM.pick [] rfl⟩
  · replace hE := hE'; clear hE'
    replace hb20 := of_decide_eq_true (not_false' hb20)
    replace hb20 : (checkH h) = 0 := by omega
    have hc0 : checkH h = 0 := by omega
    obtain ⟨hpg, hpe, hp8⟩ := put_get hk hc0
    refine wp_cond_false (hE.eval rfl) ?_
    refine wp_skip ?_
    refine hK3 _ _ ?_
    refine wp_seq_k (fun K5 hK5 => ?_)
    refine wp_seq_k (fun K6 hK6 => ?_)
    refine wp_plain [true, true, true] rfl rfl ?_
    refine s_move hE rfl rfl ?_; clear hE a; intro a hE
    refine s_len hE rfl Try.underlying40 (own_slice (hM.get 0 rfl)) rfl ?_; clear hE a; intro a hE
    refine s_bin hE rfl rfl bin_neq rfl ?_; clear hE a; intro a hE
    refine q_nil ?_
    replace hE : Env a 97 [(1, _), (2, _), (4, _), (5, _), (20, _), (24, _)] := hE.sel [1, 2, 4, 5, 20, 24] rfl
    refine hK6 _ _ ?_
    replace hE := hE.cast 24 rfl (show _ = Value.bool false from (congrArg Value.bool (by first | rfl | (simp [hp8]; done))))
    refine wp_cond_false (hE.eval rfl) ?_
    refine wp_skip ?_
    refine hK5 _ _ ?_
    refine wp_seq_k (fun K7 hK7 => ?_)
    refine wp_plain [false, true, false, true] rfl rfl ?_
    refine s_buildSlice (xs := []) (([] : List (List UInt8)).flatMap bv) hE hM sl40 rfl rfl rfl (by intro v hv; cases hv) rfl rfl rfl rfl ?_; clear hE a; intro a v25 w3 hE hM'
    clear hM; have hM := hM'; clear hM'
    replace hM := hM.ownEq (m' := ([] : List (List UInt8)).length) (cs' := ([] : List (List UInt8)).flatMap bv) rfl rfl
    refine s_move hE rfl rfl ?_; clear hE a; intro a hE
    obtain ⟨cq1, hq1⟩ := own_rd (hM.get 1 rfl)
    refine s_append hE rfl rfl hM sl40 (Src.rd Try.underlying40 hq1 (bvs_one _)) (len47 (by first | omega | (simp; omega))) (by first | omega | (simp; omega)) (by intro X h; cases h) rfl ?_; clear hE a; intro a v27 w4 hE hM'; clear hM; have hM := hM'; clear hM'
    replace hM := hM.ownEq (m' := (putH h).length) (cs' := (putH h).flatMap bv) (by simp) rfl
    refine s_assign hE rfl rfl ?_; clear hE a; intro a hE
    refine q_nil ?_
    replace hE : Env a 97 [(1, _), (2, _), (4, _), (5, _), (7, _), (20, _), (24, _)] := hE.sel [1, 2, 4, 5, 7, 20, 24] rfl
    refine hK7 _ _ ?_
    refine wp_seq_k (fun K8 hK8 => ?_)
    refine wp_seq_k (fun K9 hK9 => ?_)
    refine wp_plain [true] rfl rfl ?_
    refine s_assign hE rfl rfl ?_; clear hE a; intro a hE
    refine q_nil ?_
    refine hK9 _ _ ?_
    refine wp_block ?_
    replace hM := Mem.ownRowsEq (f := bv) (ls := putH h) (ms := bends (putH h) (ls.take 0)) hM rfl
    refine c_loop (fun (i : Nat) a w' => i ≤ min ls.length 20 ∧ Env a 97 [(1, u), (2, .pointer (some ⟨b2, 0, none⟩)), (4, .bool false), (5, v16_0), (7, v27), (8, .int .i64 ((i : Nat) : Int)), (20, .bool false), (24, .bool false)] ∧ Mem w [] w' [own v27 64 ((bends (putH h) (ls.take i)).length) ((bends (putH h) (ls.take i)).flatMap bv), own v16_0 64 ((putH h).length) ((putH h).flatMap bv), blk b2 [[.int .i64 h.m], [.int .i64 h.r], [.bool h.v0.1], [.int .u64 ((h.v0.2.1 : Nat) : Int)], bv h.v0.2.2.1, bv h.v0.2.2.2, [.bool h.v1.1], [.int .u64 ((h.v1.2.1 : Nat) : Int)], bv h.v1.2.2.1, bv h.v1.2.2.2, [.bool h.s0.1], [.int .i64 h.s0.2.1], bv h.s0.2.2.1, bv h.s0.2.2.2.1, bv h.s0.2.2.2.2, [.bool h.s1.1], [.int .i64 h.s1.2.1], bv h.s1.2.2.1, bv h.s1.2.2.2.1, bv h.s1.2.2.2.2, [.bool h.s2.1], [.int .i64 h.s2.2.1], bv h.s2.2.2.1, bv h.s2.2.2.2.1, bv h.s2.2.2.2.2, [.bool h.s3.1], [.int .i64 h.s3.2.1], bv h.s3.2.2.1, bv h.s3.2.2.2.1, bv h.s3.2.2.2.2] [1, 1, 1, 1, 32, 32, 1, 1, 32, 32, 1, 1, 16, 32, 32, 1, 1, 16, 32, 32, 1, 1, 16, 32, 32, 1, 1, 16, 32, 32] 39, rd u 2 ls.length lc (ls.flatMap pairC)]) (fun i => min ls.length 20 - i) 0 ⟨Nat.zero_le _, hE.sel [1, 2, 4, 5, 7, 8, 20, 24] rfl, hM⟩ ?_
    clear hE hM a; rintro i a w5 ⟨hi, hE, hM⟩
    refine wp_seq_k (fun K10 hK10 => ?_)
    refine wp_seq_k (fun K11 hK11 => ?_)
    refine wp_plain [true, true, true, true, true, true, true, true] rfl rfl ?_
    refine s_move hE rfl rfl ?_; clear hE a; intro a hE
    refine s_move hE rfl rfl ?_; clear hE a; intro a hE
    refine s_len hE rfl Try.underlying62 (rd_slice (hM.get 3 rfl)) rfl ?_; clear hE a; intro a hE
    refine s_bin hE rfl rfl bin_lss rfl ?_; clear hE a; intro a hE
    refine s_move hE rfl rfl ?_; clear hE a; intro a hE
    refine hE.split 32 rfl (fun hb32 hE' => ?_) (fun hb32 hE' => ?_)
    · replace hE := hE'; clear hE'
      replace hb32 := of_decide_eq_true hb32
      replace hb32 : i < ls.length := by omega
      refine g_yes hE rfl rfl ?_
      refine s_move hE rfl rfl ?_; clear hE a; intro a hE
      refine g_yes hE rfl rfl ?_
      refine s_bin hE rfl rfl bin_lss rfl ?_; clear hE a; intro a hE
      refine s_pickt hE rfl rfl rfl ?_; clear hE a; intro a hE
      refine q_nil ?_
      replace hE : Env a 97 [(1, _), (2, _), (4, _), (5, _), (7, _), (8, _), (20, _), (24, _), (35, _)] := hE.sel [1, 2, 4, 5, 7, 8, 20, 24, 35] rfl
      refine hK11 _ _ ?_
      refine hE.split 35 rfl (fun hb35 hE' => ?_) (fun hb35 hE' => ?_)
      · replace hE := hE'; clear hE'
        replace hb35 := of_decide_eq_true hb35
        replace hb35 : i < 20 := by omega
        have hB8 := ((bends_ok (l := ls.take i) ⟨hp8, putH_ok hk⟩)).1
        have hil : i < ls.length := by omega
        have hat : (ls.getD i (0, 0)).1 % 512 / 64 < 8 := by omega
        refine wp_cond_true (hE.eval rfl) ?_
        refine wp_skip ?_
        refine hK10 _ _ ?_
        refine wp_seq_k (fun K12 hK12 => ?_)
        refine wp_block ?_
        refine wp_seq_k (fun K13 hK13 => ?_)
        refine wp_plain [true, true, true, true, true, true, true, true] rfl rfl ?_
        refine s_move hE rfl rfl ?_; clear hE a; intro a hE
        refine s_move hE rfl rfl ?_; clear hE a; intro a hE
        refine s_indexRd (j := i) hE rfl (hM.get 3 rfl) rfl slt62 (by first | rfl | omega) (by first | omega | (have := ((bends_ok (l := ls.take (min ls.length 20)) ⟨hp8, putH_ok hk⟩)).1; omega)) rfl ?_; clear hE a; intro a p40 hE hc40 hp40
        have hlj40 : i < ls.length := (by first | omega | (have := ((bends_ok (l := ls.take (min ls.length 20)) ⟨hp8, putH_ok hk⟩)).1; omega))
        have hok40 := ho_ls _ (getD_mem (d := (0, 0)) hlj40)
        rw [flat_elem (d := (0, 0)) (fun x hx => (show (pairC _).length = 2 from rfl)) hlj40] at hc40
        refine s_indexAt (j := 0) hE rfl hc40 rfl arr64 rfl (by decide) rfl ?_; clear hE a; intro a p41 hE hc41 hp41
        replace hc41 : (cellsAt _ [.int .u16 (((ls.getD i (0, 0)).1 : Nat) : Int)]).holds _ := hc41
        refine s_loadAt1 hE rfl hc41 one63 (by intro X h; cases h) rfl ?_; clear hE a; intro a hE
        refine s_bin hE rfl rfl (bin_rem_nat (m := ((ls.getD i (0, 0)).1)) (s := 512) (by decide)) rfl ?_; clear hE a; intro a hE
        refine s_conv hE rfl (cnv_int Try.underlying63 Try.underlying3 (wrap_i64 (by omega) (by omega))) rfl ?_; clear hE a; intro a hE
        refine s_assign hE rfl rfl ?_; clear hE a; intro a hE
        refine q_nil ?_
        replace hE : Env a 97 [(1, _), (2, _), (4, _), (5, _), (7, _), (8, _), (9, _), (20, _), (24, _), (35, _)] := hE.sel [1, 2, 4, 5, 7, 8, 9, 20, 24, 35] rfl
        refine hK13 _ _ ?_
        refine wp_treeM hM (by kernel_rfl) (fun _ => True) (fun _ => True) (.re [(0, true), (1, true), (2, true), (3, true), (4, true), (5, true), (6, true), (8, true), (9, true), (10, true), (11, true), (15, true), (7, true), (12, true), (13, true), (14, true), (16, true), (17, false)] (.fl 12 (.weak (.fl 5 (.cut (.or 17 (.cut (.re [] (.weak (.leaf 0)))) (.stop))))))) [(0, true), (1, true), (2, true), (3, true), (4, true), (5, true), (6, true), (8, true), (9, true), (10, true), (11, true), (15, true), (7, true), (12, true), (13, true), (14, true), (16, true), (17, false)] [(2, [(5, 2), (6, 5), (7, 6), (14, 7), (15, 2), (16, 2), (17, 2)]), (4, [(6, 4), (7, 6), (14, 7), (16, 4), (17, 4)]), (5, [(6, 5), (7, 6), (14, 7), (16, 5), (17, 5)]), (6, [(7, 6), (14, 7), (16, 6), (17, 6)]), (7, [(14, 7), (16, 7), (17, 7)]), (10, [(11, 10), (12, 11), (13, 12), (14, 13), (16, 10), (17, 10)]), (11, [(12, 11), (13, 12), (14, 13), (16, 11), (17, 11)]), (12, [(13, 12), (14, 13), (16, 12), (17, 12)]), (13, [(14, 13), (16, 13), (17, 13)]), (14, [(16, 14), (17, 14)]), (15, [(16, 15), (17, 16)]), (16, [(17, 16)]), (17, [])] (by kernel_rfl) ?_
        intro w6 hM' hww6; clear hM; have hM := hM'; clear hM'
        refine o_re ?_
        refine o_fl rfl ?_
        refine s_move hE rfl rfl ?_; clear hE a; intro a hE
        refine s_move hE rfl rfl ?_; clear hE a; intro a hE
        refine s_bin hE rfl rfl (bin_quo_nat (m := (((ls.getD i (0, 0)).1) % 512)) (s := 64) (by decide) (wrap_i64 (by omega) (by omega))) rfl ?_; clear hE a; intro a hE
        refine s_move hE rfl rfl ?_; clear hE a; intro a hE
        refine s_bin hE rfl rfl (bin_rem_nat (m := (((ls.getD i (0, 0)).1) % 512)) (s := 64) (by decide)) rfl ?_; clear hE a; intro a hE
        have hlj50 : (((ls.getD i (0, 0)).1) % 512) / 64 < (bends (putH h) (ls.take i)).length := (by omega)
        refine s_indexOwn (j := (((ls.getD i (0, 0)).1) % 512) / 64) hE rfl (hM.get 0 rfl) rfl slt40 (by first | rfl | omega) hlj50 rfl ?_; clear hE a; intro a hE hc50
        rw [flat_elem (d := (List.replicate 64 (0 : UInt8))) (fun x hx => ((bv_length _).trans (((bends_ok (l := ls.take i) ⟨hp8, putH_ok hk⟩).2) x hx))) hlj50] at hc50
        refine s_indexElem (j := (((ls.getD i (0, 0)).1) % 512) % 64) (q := (((((ls.getD i (0, 0)).1) % 512) / 64) * 64 + ((((ls.getD i (0, 0)).1) % 512) % 64))) hE rfl (hM.get 0 rfl) (by have := hlj50; omega) hc50 rfl arr59 (by first | rfl | omega) (by first | omega | decide) (row64 ((bends_ok (l := ls.take i) ⟨hp8, putH_ok hk⟩).2) hlj50) rfl rfl ?_; clear hE a; intro a hE hc51
        refine s_move hE rfl rfl ?_; clear hE a; intro a hE
        refine s_move hE rfl rfl ?_; clear hE a; intro a hE
        refine s_indexRd (j := i) hE rfl (hM.get 3 rfl) rfl slt62 (by first | rfl | omega) (by first | omega | (have := ((bends_ok (l := ls.take (min ls.length 20)) ⟨hp8, putH_ok hk⟩)).1; omega)) rfl ?_; clear hE a; intro a p55 hE hc55 hp55
        have hlj55 : i < ls.length := (by first | omega | (have := ((bends_ok (l := ls.take (min ls.length 20)) ⟨hp8, putH_ok hk⟩)).1; omega))
        have hok55 := ho_ls _ (getD_mem (d := (0, 0)) hlj55)
        rw [flat_elem (d := (0, 0)) (fun x hx => (show (pairC _).length = 2 from rfl)) hlj55] at hc55
        refine s_indexAt (j := 1) hE rfl hc55 rfl arr64 rfl (by decide) rfl ?_; clear hE a; intro a p56 hE hc56 hp56
        replace hc56 : (cellsAt _ [.int .u16 (((ls.getD i (0, 0)).2 : Nat) : Int)]).holds _ := hc56
        have hlj60 : (((ls.getD i (0, 0)).1) % 512) / 64 < (bends (putH h) (ls.take i)).length := (by omega)
        refine s_indexOwn (j := (((ls.getD i (0, 0)).1) % 512) / 64) hE rfl (hM.get 0 rfl) rfl slt40 (by first | rfl | omega) hlj60 rfl ?_; clear hE a; intro a hE hc60
        rw [flat_elem (d := (List.replicate 64 (0 : UInt8))) (fun x hx => ((bv_length _).trans (((bends_ok (l := ls.take i) ⟨hp8, putH_ok hk⟩).2) x hx))) hlj60] at hc60
        refine q_nil (q_nx ?_)
        refine o_weak (fun _ => False) (fun _ _ => trivial) ?_
        refine o_fl rfl ?_
        refine s_loadAt1 hE rfl hc51 one5 (by intro X h; cases h; simp) rfl ?_; clear hE a; intro a hE
        refine s_loadAt1 hE rfl hc56 one63 (by intro X h; cases h; simp) rfl ?_; clear hE a; intro a hE
        refine s_conv hE rfl (cnv_int Try.underlying63 Try.underlying5 (wrap_u8_ofNat ((ls.getD i (0, 0)).2))) rfl ?_; clear hE a; intro a hE
        refine s_bin hE rfl rfl (bin_xor8 (x := ((bends (putH h) (ls.take i)).getD ((((ls.getD i (0, 0)).1) % 512) / 64) (List.replicate 64 (0 : UInt8))).getD ((((ls.getD i (0, 0)).1) % 512) % 64) 0) (y := UInt8.ofNat ((ls.getD i (0, 0)).2))) rfl ?_; clear hE a; intro a hE
        refine s_indexElem (j := (((ls.getD i (0, 0)).1) % 512) % 64) (q := (((((ls.getD i (0, 0)).1) % 512) / 64) * 64 + ((((ls.getD i (0, 0)).1) % 512) % 64))) hE rfl (hM.get 0 rfl) (by have := hlj60; omega) hc60 rfl arr59 (by first | rfl | omega) (by first | omega | decide) (row64 ((bends_ok (l := ls.take i) ⟨hp8, putH_ok hk⟩).2) hlj60) rfl rfl ?_; clear hE a; intro a hE hc61
        refine q_nil (q_nx ?_)
        refine o_cut (fun b => b ∈ valBlocks v27) ?_
        refine o_or rfl ?_ ?_
        · refine s_storeOwn (vs := [_]) hE rfl rfl hM rfl sz5 rfl (one1 rfl) (by have := hlj60; simp only [List.length_cons, List.length_nil]; omega) (by have := hlj60; omega) (by intro X h; cases h; exact fun _ hb => hb) ?_; intro w7 hM'; clear hM; have hM := hM'; clear hM'
          replace hM := Mem.rowsWr1 (ls := bends (putH h) (ls.take i)) (x := (((bends (putH h) (ls.take i)).getD ((((ls.getD i (0, 0)).1) % 512) / 64) (List.replicate 64 (0 : UInt8))).getD ((((ls.getD i (0, 0)).1) % 512) % 64) 0) ^^^ (UInt8.ofNat ((ls.getD i (0, 0)).2))) (j := (((ls.getD i (0, 0)).1) % 512) / 64) (k := (((ls.getD i (0, 0)).1) % 512) % 64) hM rfl ((bends_ok (l := ls.take i) ⟨hp8, putH_ok hk⟩).2) hlj60 (by first | omega | decide)
          refine q_nil (q_nx ?_)
          refine o_cut (fun _ => True) ?_
          refine o_re ?_
          refine o_weak (fun _ => False) (fun _ _ => trivial) ?_
          refine o_leaf rfl rfl ?_
          refine q_nil (q_ph (q_nil ?_))
          replace hE : Env a 97 [(1, _), (2, _), (4, _), (5, _), (7, _), (8, _), (9, _), (20, _), (24, _), (35, _)] := hE.sel [1, 2, 4, 5, 7, 8, 9, 20, 24, 35] rfl
          refine q_block_n ?_
          refine hK12 _ _ ?_
          refine wp_plain [true, true, true] rfl rfl ?_
          refine s_move hE rfl rfl ?_; clear hE a; intro a hE
          refine s_bin hE rfl rfl (show Bin _ _ _ _ _ (.int .i64 ((i + 1 : Nat) : Int)) from bin_add (by rw [wrap_i64 (by omega) (by omega)]; omega)) rfl ?_; clear hE a; intro a hE
          refine s_assign hE rfl rfl ?_; clear hE a; intro a hE
          refine q_nil ?_
          replace hE : Env a 97 [(1, _), (2, _), (4, _), (5, _), (7, _), (8, _), (9, _), (20, _), (24, _), (35, _)] := hE.sel [1, 2, 4, 5, 7, 8, 9, 20, 24, 35] rfl
          replace hE := hE.cast 8 rfl (show _ = Value.int .i64 (((i + 1) : Nat) : Int) from (congrArg _ (by omega)))
          replace hM := Mem.ownRowsEq (f := bv) (ls := (bends (putH h) (ls.take i)).set ((((ls.getD i (0, 0)).1) % 512) / 64) (((bends (putH h) (ls.take i)).getD ((((ls.getD i (0, 0)).1) % 512) / 64) []).set ((((ls.getD i (0, 0)).1) % 512) % 64) ((((bends (putH h) (ls.take i)).getD ((((ls.getD i (0, 0)).1) % 512) / 64) (List.replicate 64 (0 : UInt8))).getD ((((ls.getD i (0, 0)).1) % 512) % 64) 0) ^^^ (UInt8.ofNat ((ls.getD i (0, 0)).2))))) (ms := bends (putH h) (ls.take (i + 1))) hM ((bends_step (by omega)).symm)
          replace hM : Mem _ _ w7 [_, _, _, _] := hM.pick [0, 1, 2, 3] rfl
          exact ⟨i + 1, ⟨by omega, hE.sel [1, 2, 4, 5, 7, 8, 20, 24] rfl, hM⟩, by omega⟩
        trivial
      · replace hE := hE'; clear hE'
        replace hb35 := of_decide_eq_false hb35
        replace hb35 : ¬ (i < 20) := by omega
        obtain rfl : i = min ls.length 20 := by omega
        refine wp_cond_false (hE.eval rfl) ?_
        refine wp_exit ?_
        refine q_then_e ?_
        refine q_then_e ?_
        refine q_block_x ?_
        refine hK8 _ _ ?_
        refine wp_seq_k (fun K12 hK12 => ?_)
        refine wp_plain [true] rfl rfl ?_
        refine s_assign hE rfl rfl ?_; clear hE a; intro a hE
        refine q_nil ?_
        refine hK12 _ _ ?_
        refine wp_seq_k (fun K13 hK13 => ?_)
        refine wp_seq_k (fun K14 hK14 => ?_)
        refine wp_plain [true] rfl rfl ?_
        refine s_assign hE rfl rfl ?_; clear hE a; intro a hE
        refine q_nil ?_
        refine hK14 _ _ ?_
        refine wp_block ?_
        replace hE := hE.cast 10 rfl (show _ = Value.bool (takeEq (putH h) (bends (putH h) (ls.take (min ls.length 20))) 0) from (congrArg Value.bool takeEq_zero))
        refine c_loop (fun (q : Nat) a w' => q ≤ 8 ∧ Env a 97 [(1, u), (2, .pointer (some ⟨b2, 0, none⟩)), (4, .bool false), (5, v16_0), (7, v27), (8, .int .i64 (((min ls.length 20) : Nat) : Int)), (10, .bool (takeEq (putH h) (bends (putH h) (ls.take (min ls.length 20))) q)), (11, .int .i64 ((q : Nat) : Int)), (20, .bool false), (24, .bool false), (35, .bool false)] ∧ Mem w [] w' [own v27 64 ((bends (putH h) (ls.take (min ls.length 20))).length) ((bends (putH h) (ls.take (min ls.length 20))).flatMap bv), own v16_0 64 ((putH h).length) ((putH h).flatMap bv), blk b2 [[.int .i64 h.m], [.int .i64 h.r], [.bool h.v0.1], [.int .u64 ((h.v0.2.1 : Nat) : Int)], bv h.v0.2.2.1, bv h.v0.2.2.2, [.bool h.v1.1], [.int .u64 ((h.v1.2.1 : Nat) : Int)], bv h.v1.2.2.1, bv h.v1.2.2.2, [.bool h.s0.1], [.int .i64 h.s0.2.1], bv h.s0.2.2.1, bv h.s0.2.2.2.1, bv h.s0.2.2.2.2, [.bool h.s1.1], [.int .i64 h.s1.2.1], bv h.s1.2.2.1, bv h.s1.2.2.2.1, bv h.s1.2.2.2.2, [.bool h.s2.1], [.int .i64 h.s2.2.1], bv h.s2.2.2.1, bv h.s2.2.2.2.1, bv h.s2.2.2.2.2, [.bool h.s3.1], [.int .i64 h.s3.2.1], bv h.s3.2.2.1, bv h.s3.2.2.2.1, bv h.s3.2.2.2.2] [1, 1, 1, 1, 32, 32, 1, 1, 32, 32, 1, 1, 16, 32, 32, 1, 1, 16, 32, 32, 1, 1, 16, 32, 32, 1, 1, 16, 32, 32] 39, rd u 2 ls.length lc (ls.flatMap pairC)]) (fun q => 8 - q) 0 ⟨Nat.zero_le _, hE.sel [1, 2, 4, 5, 7, 8, 10, 11, 20, 24, 35] rfl, hM⟩ ?_
        clear hE hM a; rintro q a w6 ⟨hq, hE, hM⟩
        refine wp_seq_k (fun K15 hK15 => ?_)
        refine wp_seq_k (fun K16 hK16 => ?_)
        refine wp_plain [true, true, true, true] rfl rfl ?_
        refine s_move hE rfl rfl ?_; clear hE a; intro a hE
        refine s_move hE rfl rfl ?_; clear hE a; intro a hE
        refine s_len hE rfl Try.underlying40 (own_slice (hM.get 1 rfl)) rfl ?_; clear hE a; intro a hE
        refine s_bin hE rfl rfl bin_lss rfl ?_; clear hE a; intro a hE
        refine q_nil ?_
        replace hE : Env a 97 [(1, _), (2, _), (4, _), (5, _), (7, _), (8, _), (10, _), (11, _), (20, _), (24, _), (35, _), (65, _)] := hE.sel [1, 2, 4, 5, 7, 8, 10, 11, 20, 24, 35, 65] rfl
        refine hK16 _ _ ?_
        refine hE.split 65 rfl (fun hb65 hE' => ?_) (fun hb65 hE' => ?_)
        · replace hE := hE'; clear hE'
          replace hb65 := of_decide_eq_true hb65
          replace hb65 : q < ((putH h).length) := by omega
          replace hb65 : q < 8 := by omega
          refine wp_cond_true (hE.eval rfl) ?_
          refine wp_skip ?_
          refine hK15 _ _ ?_
          refine wp_seq_k (fun K17 hK17 => ?_)
          refine wp_block ?_
          refine wp_drawnM hM (by kernel_rfl) (fun _ => False) [(0, true), (1, true), (2, true), (3, true), (4, true), (5, true), (6, true), (7, true), (8, true), (9, true), (10, true), (11, true), (12, true)] [] (by kernel_rfl) rfl ?_
          intro w7 hM' hww7; clear hM; have hM := hM'; clear hM'
          refine s_move hE rfl rfl ?_; clear hE a; intro a hE
          refine s_move hE rfl rfl ?_; clear hE a; intro a hE
          refine hE.split 69 rfl (fun hb69 hE' => ?_) (fun hb69 hE' => ?_)
          · replace hE := hE'; clear hE'
            refine g_yes hE rfl rfl ?_
            refine s_move hE rfl rfl ?_; clear hE a; intro a hE
            refine g_yes hE rfl rfl ?_
            refine s_move hE rfl rfl ?_; clear hE a; intro a hE
            refine g_yes hE rfl rfl ?_
            obtain ⟨cx72, hx72⟩ := own_rd (hM.get 1 rfl)
            refine s_indexRd (j := q) hE rfl hx72 rfl slt40 (by first | rfl | omega) (by first | omega | (have := ((bends_ok (l := ls.take (min ls.length 20)) ⟨hp8, putH_ok hk⟩)).1; omega)) rfl ?_; clear hE a; intro a p72 hE hc72 hp72
            have hlj72 : q < (putH h).length := (by first | omega | (have := ((bends_ok (l := ls.take (min ls.length 20)) ⟨hp8, putH_ok hk⟩)).1; omega))
            have hok72 := (putH_ok hk) _ (getD_mem (d := (List.replicate 64 (0 : UInt8))) hlj72)
            rw [flat_elem (d := (List.replicate 64 (0 : UInt8))) (fun x hx => ((bv_length _).trans (putH_ok hk x hx))) hlj72] at hc72
            refine g_yes hE rfl rfl ?_
            refine s_loadAtN hE rfl hc72 (by rw [((bv_length _).trans hok72)]; exact row59) (by intro X h; cases h; simp) rfl ?_; clear hE a; intro a hE
            replace hE := hE.cast 73 rfl (show _ = Value.agg (bv ((putH h).getD q (List.replicate 64 (0 : UInt8)))).toArray from rfl)
            refine g_yes hE rfl rfl ?_
            refine s_move hE rfl rfl ?_; clear hE a; intro a hE
            refine g_yes hE rfl rfl ?_
            refine s_move hE rfl rfl ?_; clear hE a; intro a hE
            refine g_yes hE rfl rfl ?_
            obtain ⟨cx76, hx76⟩ := own_rd (hM.get 0 rfl)
            refine s_indexRd (j := q) hE rfl hx76 rfl slt40 (by first | rfl | omega) (by first | omega | (have := ((bends_ok (l := ls.take (min ls.length 20)) ⟨hp8, putH_ok hk⟩)).1; omega)) rfl ?_; clear hE a; intro a p76 hE hc76 hp76
            have hlj76 : q < (bends (putH h) (ls.take (min ls.length 20))).length := (by first | omega | (have := ((bends_ok (l := ls.take (min ls.length 20)) ⟨hp8, putH_ok hk⟩)).1; omega))
            have hok76 := ((bends_ok (l := ls.take (min ls.length 20)) ⟨hp8, putH_ok hk⟩).2) _ (getD_mem (d := (List.replicate 64 (0 : UInt8))) hlj76)
            rw [flat_elem (d := (List.replicate 64 (0 : UInt8))) (fun x hx => ((bv_length _).trans ((bends_ok (l := ls.take (min ls.length 20)) ⟨hp8, putH_ok hk⟩).2 x hx))) hlj76] at hc76
            refine g_yes hE rfl rfl ?_
            refine s_loadAtN hE rfl hc76 (by rw [((bv_length _).trans hok76)]; exact row59) (by intro X h; cases h; simp) rfl ?_; clear hE a; intro a hE
            replace hE := hE.cast 77 rfl (show _ = Value.agg (bv ((bends (putH h) (ls.take (min ls.length 20))).getD q (List.replicate 64 (0 : UInt8)))).toArray from rfl)
            refine g_yes hE rfl rfl ?_
            refine s_bin hE rfl rfl (eqa59 (by first | assumption | (simp; done) | (simp [*]; done)) (by first | assumption | (simp; done) | (simp [*]; done))).1 rfl ?_; clear hE a; intro a hE
            refine s_pickt hE rfl rfl rfl ?_; clear hE a; intro a hE
            refine s_assign hE rfl rfl ?_; clear hE a; intro a hE
            refine q_nil ?_
            replace hE : Env a 97 [(1, _), (2, _), (4, _), (5, _), (7, _), (8, _), (10, _), (11, _), (20, _), (24, _), (35, _), (65, _)] := hE.sel [1, 2, 4, 5, 7, 8, 10, 11, 20, 24, 35, 65] rfl
            refine q_block_n ?_
            refine hK17 _ _ ?_
            refine wp_plain [true, true, true] rfl rfl ?_
            refine s_move hE rfl rfl ?_; clear hE a; intro a hE
            refine s_bin hE rfl rfl (show Bin _ _ _ _ _ (.int .i64 ((q + 1 : Nat) : Int)) from bin_add (by rw [wrap_i64 (by omega) (by omega)]; omega)) rfl ?_; clear hE a; intro a hE
            refine s_assign hE rfl rfl ?_; clear hE a; intro a hE
            refine q_nil ?_
            replace hE : Env a 97 [(1, _), (2, _), (4, _), (5, _), (7, _), (8, _), (10, _), (11, _), (20, _), (24, _), (35, _), (65, _)] := hE.sel [1, 2, 4, 5, 7, 8, 10, 11, 20, 24, 35, 65] rfl
            replace hE := hE.cast 10 rfl (show _ = Value.bool (takeEq (putH h) (bends (putH h) (ls.take (min ls.length 20))) (q + 1)) from (congrArg Value.bool (by first | exact takeEq_no (by assumption) | exact takeEq_succ (by assumption) (by omega) (by have := ((bends_ok (l := ls.take (min ls.length 20)) ⟨hp8, putH_ok hk⟩)).1; omega))))
            replace hE := hE.cast 11 rfl (show _ = Value.int .i64 (((q + 1) : Nat) : Int) from (congrArg _ (by omega)))
            replace hM : Mem _ _ w7 [_, _, _, _] := hM.pick [0, 1, 2, 3] rfl
            exact ⟨q + 1, ⟨by omega, hE.sel [1, 2, 4, 5, 7, 8, 10, 11, 20, 24, 35] rfl, hM⟩, by omega⟩
          · replace hE := hE'; clear hE'
            refine g_no (b := false) hE rfl rfl rfl ?_; clear hE a; intro a hE
            refine g_no (b := false) hE rfl rfl rfl ?_; clear hE a; intro a hE
            refine g_no (b := false) hE rfl rfl rfl ?_; clear hE a; intro a hE
            refine g_no (b := false) hE rfl rfl rfl ?_; clear hE a; intro a hE
            refine g_no (b := false) hE rfl rfl rfl ?_; clear hE a; intro a hE
            refine g_no (b := false) hE rfl rfl rfl ?_; clear hE a; intro a hE
            refine g_no (b := false) hE rfl rfl rfl ?_; clear hE a; intro a hE
            refine g_no (b := false) hE rfl rfl rfl ?_; clear hE a; intro a hE
            refine g_no (b := false) hE rfl rfl rfl ?_; clear hE a; intro a hE
            refine s_pickf hE rfl rfl rfl ?_; clear hE a; intro a hE
            refine s_assign hE rfl rfl ?_; clear hE a; intro a hE
            refine q_nil ?_
            replace hE : Env a 97 [(1, _), (2, _), (4, _), (5, _), (7, _), (8, _), (10, _), (11, _), (20, _), (24, _), (35, _), (65, _)] := hE.sel [1, 2, 4, 5, 7, 8, 10, 11, 20, 24, 35, 65] rfl
            refine q_block_n ?_
            refine hK17 _ _ ?_
            refine wp_plain [true, true, true] rfl rfl ?_
            refine s_move hE rfl rfl ?_; clear hE a; intro a hE
            refine s_bin hE rfl rfl (show Bin _ _ _ _ _ (.int .i64 ((q + 1 : Nat) : Int)) from bin_add (by rw [wrap_i64 (by omega) (by omega)]; omega)) rfl ?_; clear hE a; intro a hE
            refine s_assign hE rfl rfl ?_; clear hE a; intro a hE
            refine q_nil ?_
            replace hE : Env a 97 [(1, _), (2, _), (4, _), (5, _), (7, _), (8, _), (10, _), (11, _), (20, _), (24, _), (35, _), (65, _)] := hE.sel [1, 2, 4, 5, 7, 8, 10, 11, 20, 24, 35, 65] rfl
            replace hE := hE.cast 10 rfl (show _ = Value.bool (takeEq (putH h) (bends (putH h) (ls.take (min ls.length 20))) (q + 1)) from (congrArg Value.bool (by first | exact takeEq_no (by assumption) | exact takeEq_succ (by assumption) (by omega) (by have := ((bends_ok (l := ls.take (min ls.length 20)) ⟨hp8, putH_ok hk⟩)).1; omega))))
            replace hE := hE.cast 11 rfl (show _ = Value.int .i64 (((q + 1) : Nat) : Int) from (congrArg _ (by omega)))
            replace hM : Mem _ _ w7 [_, _, _, _] := hM.pick [0, 1, 2, 3] rfl
            exact ⟨q + 1, ⟨by omega, hE.sel [1, 2, 4, 5, 7, 8, 10, 11, 20, 24, 35] rfl, hM⟩, by omega⟩
        · replace hE := hE'; clear hE'
          replace hb65 := of_decide_eq_false hb65
          replace hb65 : ¬ (q < ((putH h).length)) := by omega
          obtain rfl : 8 = q := by omega
          refine wp_cond_false (hE.eval rfl) ?_
          refine wp_exit ?_
          refine q_then_e ?_
          refine q_then_e ?_
          refine q_block_x ?_
          refine hK13 _ _ ?_
          refine wp_seq_k (fun K17 hK17 => ?_)
          refine wp_plain [true, false, true, true, true, false, false, true] rfl rfl ?_
          refine s_move hE rfl rfl ?_; clear hE a; intro a hE
          obtain ⟨cq2, hq2⟩ := own_rd (hM.get 0 rfl)
          refine s_call hE rfl Try.call14 (hget_a _ (bends (putH h) (ls.take (min ls.length 20))) _ _ hq2 ((bends_ok (l := ls.take (min ls.length 20)) ⟨hp8, putH_ok hk⟩).2) (by have := ((bends_ok (l := ls.take (min ls.length 20)) ⟨hp8, putH_ok hk⟩)).1; omega)) rfl ?_
          rintro e w7 ⟨rfl, hN⟩
          refine ⟨_, rfl, trivial, ?_⟩; clear hE a; intro a hE
          replace hM : Mem _ _ w7 [_, _, _, _] := hM.call0 hN trivial; clear hN
          refine s_move hE rfl rfl ?_; clear hE a; intro a hE
          refine s_extract hE rfl rfl rfl ?_; clear hE a; intro a hE
          refine s_extract hE rfl rfl rfl ?_; clear hE a; intro a hE
          refine s_alloc [1, 1, 1, 1, 32, 32, 1, 1, 32, 32, 1, 1, 16, 32, 32, 1, 1, 16, 32, 32, 1, 1, 16, 32, 32, 1, 1, 16, 32, 32] hE hM zeroL39 rfl rfl ?_; clear hE a; intro a b12 w8 hE hM'
          clear hM; have hM := hM'; clear hM'
          have hsl374_4 : ((getHH (bends (putH h) (ls.take (min ls.length 20)))).v0.2.2.1).length = 32 := (getHH_ok ((bends_ok (l := ls.take (min ls.length 20)) ⟨hp8, putH_ok hk⟩).2)).v0.2.1
          have hsl374_5 : ((getHH (bends (putH h) (ls.take (min ls.length 20)))).v0.2.2.2).length = 32 := (getHH_ok ((bends_ok (l := ls.take (min ls.length 20)) ⟨hp8, putH_ok hk⟩).2)).v0.2.2
          have hsl374_8 : ((getHH (bends (putH h) (ls.take (min ls.length 20)))).v1.2.2.1).length = 32 := (getHH_ok ((bends_ok (l := ls.take (min ls.length 20)) ⟨hp8, putH_ok hk⟩).2)).v1.2.1
          have hsl374_9 : ((getHH (bends (putH h) (ls.take (min ls.length 20)))).v1.2.2.2).length = 32 := (getHH_ok ((bends_ok (l := ls.take (min ls.length 20)) ⟨hp8, putH_ok hk⟩).2)).v1.2.2
          have hsl374_12 : ((getHH (bends (putH h) (ls.take (min ls.length 20)))).s0.2.2.1).length = 16 := (getHH_ok ((bends_ok (l := ls.take (min ls.length 20)) ⟨hp8, putH_ok hk⟩).2)).s0.2.1
          have hsl374_13 : ((getHH (bends (putH h) (ls.take (min ls.length 20)))).s0.2.2.2.1).length = 32 := (getHH_ok ((bends_ok (l := ls.take (min ls.length 20)) ⟨hp8, putH_ok hk⟩).2)).s0.2.2.1
          have hsl374_14 : ((getHH (bends (putH h) (ls.take (min ls.length 20)))).s0.2.2.2.2).length = 32 := (getHH_ok ((bends_ok (l := ls.take (min ls.length 20)) ⟨hp8, putH_ok hk⟩).2)).s0.2.2.2
          have hsl374_17 : ((getHH (bends (putH h) (ls.take (min ls.length 20)))).s1.2.2.1).length = 16 := (getHH_ok ((bends_ok (l := ls.take (min ls.length 20)) ⟨hp8, putH_ok hk⟩).2)).s1.2.1
          have hsl374_18 : ((getHH (bends (putH h) (ls.take (min ls.length 20)))).s1.2.2.2.1).length = 32 := (getHH_ok ((bends_ok (l := ls.take (min ls.length 20)) ⟨hp8, putH_ok hk⟩).2)).s1.2.2.1
          have hsl374_19 : ((getHH (bends (putH h) (ls.take (min ls.length 20)))).s1.2.2.2.2).length = 32 := (getHH_ok ((bends_ok (l := ls.take (min ls.length 20)) ⟨hp8, putH_ok hk⟩).2)).s1.2.2.2
          have hsl374_22 : ((getHH (bends (putH h) (ls.take (min ls.length 20)))).s2.2.2.1).length = 16 := (getHH_ok ((bends_ok (l := ls.take (min ls.length 20)) ⟨hp8, putH_ok hk⟩).2)).s2.2.1
          have hsl374_23 : ((getHH (bends (putH h) (ls.take (min ls.length 20)))).s2.2.2.2.1).length = 32 := (getHH_ok ((bends_ok (l := ls.take (min ls.length 20)) ⟨hp8, putH_ok hk⟩).2)).s2.2.2.1
          have hsl374_24 : ((getHH (bends (putH h) (ls.take (min ls.length 20)))).s2.2.2.2.2).length = 32 := (getHH_ok ((bends_ok (l := ls.take (min ls.length 20)) ⟨hp8, putH_ok hk⟩).2)).s2.2.2.2
          have hsl374_27 : ((getHH (bends (putH h) (ls.take (min ls.length 20)))).s3.2.2.1).length = 16 := (getHH_ok ((bends_ok (l := ls.take (min ls.length 20)) ⟨hp8, putH_ok hk⟩).2)).s3.2.1
          have hsl374_28 : ((getHH (bends (putH h) (ls.take (min ls.length 20)))).s3.2.2.2.1).length = 32 := (getHH_ok ((bends_ok (l := ls.take (min ls.length 20)) ⟨hp8, putH_ok hk⟩).2)).s3.2.2.1
          have hsl374_29 : ((getHH (bends (putH h) (ls.take (min ls.length 20)))).s3.2.2.2.2).length = 32 := (getHH_ok ((bends_ok (l := ls.take (min ls.length 20)) ⟨hp8, putH_ok hk⟩).2)).s3.2.2.2
          refine s_storeSegs 0 30 (vss := [[.int .i64 ((getHH (bends (putH h) (ls.take (min ls.length 20)))).m)], [.int .i64 ((getHH (bends (putH h) (ls.take (min ls.length 20)))).r)], [.bool ((getHH (bends (putH h) (ls.take (min ls.length 20)))).v0.1)], [.int .u64 (((getHH (bends (putH h) (ls.take (min ls.length 20)))).v0.2.1 : Nat) : Int)], bv ((getHH (bends (putH h) (ls.take (min ls.length 20)))).v0.2.2.1), bv ((getHH (bends (putH h) (ls.take (min ls.length 20)))).v0.2.2.2), [.bool ((getHH (bends (putH h) (ls.take (min ls.length 20)))).v1.1)], [.int .u64 (((getHH (bends (putH h) (ls.take (min ls.length 20)))).v1.2.1 : Nat) : Int)], bv ((getHH (bends (putH h) (ls.take (min ls.length 20)))).v1.2.2.1), bv ((getHH (bends (putH h) (ls.take (min ls.length 20)))).v1.2.2.2), [.bool ((getHH (bends (putH h) (ls.take (min ls.length 20)))).s0.1)], [.int .i64 ((getHH (bends (putH h) (ls.take (min ls.length 20)))).s0.2.1)], bv ((getHH (bends (putH h) (ls.take (min ls.length 20)))).s0.2.2.1), bv ((getHH (bends (putH h) (ls.take (min ls.length 20)))).s0.2.2.2.1), bv ((getHH (bends (putH h) (ls.take (min ls.length 20)))).s0.2.2.2.2), [.bool ((getHH (bends (putH h) (ls.take (min ls.length 20)))).s1.1)], [.int .i64 ((getHH (bends (putH h) (ls.take (min ls.length 20)))).s1.2.1)], bv ((getHH (bends (putH h) (ls.take (min ls.length 20)))).s1.2.2.1), bv ((getHH (bends (putH h) (ls.take (min ls.length 20)))).s1.2.2.2.1), bv ((getHH (bends (putH h) (ls.take (min ls.length 20)))).s1.2.2.2.2), [.bool ((getHH (bends (putH h) (ls.take (min ls.length 20)))).s2.1)], [.int .i64 ((getHH (bends (putH h) (ls.take (min ls.length 20)))).s2.2.1)], bv ((getHH (bends (putH h) (ls.take (min ls.length 20)))).s2.2.2.1), bv ((getHH (bends (putH h) (ls.take (min ls.length 20)))).s2.2.2.2.1), bv ((getHH (bends (putH h) (ls.take (min ls.length 20)))).s2.2.2.2.2), [.bool ((getHH (bends (putH h) (ls.take (min ls.length 20)))).s3.1)], [.int .i64 ((getHH (bends (putH h) (ls.take (min ls.length 20)))).s3.2.1)], bv ((getHH (bends (putH h) (ls.take (min ls.length 20)))).s3.2.2.1), bv ((getHH (bends (putH h) (ls.take (min ls.length 20)))).s3.2.2.2.1), bv ((getHH (bends (putH h) (ls.take (min ls.length 20)))).s3.2.2.2.2)]) hE rfl rfl hM rfl sz39 (by simp only [List.take_succ_cons, List.take_zero, List.drop_zero, List.drop_succ_cons]; simp only [List.map_cons, List.map_nil, bv_length, List.length_cons, List.length_nil, List.length_replicate, hsl374_4, hsl374_5, hsl374_8, hsl374_9, hsl374_12, hsl374_13, hsl374_14, hsl374_17, hsl374_18, hsl374_19, hsl374_22, hsl374_23, hsl374_24, hsl374_27, hsl374_28, hsl374_29]) (by decide) rfl (one_fl ⟨one1 rfl, one1 rfl, one1 rfl, one1 rfl, bv_one _, bv_one _, one1 rfl, one1 rfl, bv_one _, bv_one _, one1 rfl, one1 rfl, bv_one _, bv_one _, bv_one _, one1 rfl, one1 rfl, bv_one _, bv_one _, bv_one _, one1 rfl, one1 rfl, bv_one _, bv_one _, bv_one _, one1 rfl, one1 rfl, bv_one _, bv_one _, bv_one _, trivial⟩) rfl (by intro X h; cases h) ?_; intro w9 hM'; clear hM; have hM := hM'; clear hM'
          try simp only [List.take_zero, List.take_succ_cons, List.drop_zero, List.drop_succ_cons, List.take_nil, List.drop_nil, List.nil_append, List.append_nil, List.cons_append] at hM
          refine s_assign hE rfl rfl ?_; clear hE a; intro a hE
          refine q_nil ?_
          replace hE : Env a 97 [(1, _), (2, _), (4, _), (5, _), (7, _), (8, _), (10, _), (11, _), (12, _), (13, _), (20, _), (24, _), (35, _), (65, _)] := hE.sel [1, 2, 4, 5, 7, 8, 10, 11, 12, 13, 20, 24, 35, 65] rfl
          refine hK17 _ _ ?_
          refine wp_seq_k (fun K18 hK18 => ?_)
          refine wp_plain [true, true, true, true, true, true, true, true, true, true, false, true, true] rfl rfl ?_
          refine s_move hE rfl rfl ?_; clear hE a; intro a hE
          refine s_bin hE rfl rfl bin_eql rfl ?_; clear hE a; intro a hE
          refine s_move hE rfl rfl ?_; clear hE a; intro a hE
          refine hE.split 87 rfl (fun hb87 hE' => ?_) (fun hb87 hE' => ?_)
          · replace hE := hE'; clear hE'
            replace hb87 := of_decide_eq_true hb87
            replace hb87 : (getEH (bends (putH h) (ls.take (min ls.length 20)))) = 0 := by omega
            refine g_yes hE rfl rfl ?_
            refine s_loadN hE rfl (hM.get 0 rfl) row39 rfl (by intro X h; cases h) rfl ?_; clear hE a; intro a hE
            replace hE := hE.cast 88 rfl (show _ = Value.agg ([[.int .i64 ((getHH (bends (putH h) (ls.take (min ls.length 20)))).m)], [.int .i64 ((getHH (bends (putH h) (ls.take (min ls.length 20)))).r)], [.bool ((getHH (bends (putH h) (ls.take (min ls.length 20)))).v0.1)], [.int .u64 (((getHH (bends (putH h) (ls.take (min ls.length 20)))).v0.2.1 : Nat) : Int)], bv ((getHH (bends (putH h) (ls.take (min ls.length 20)))).v0.2.2.1), bv ((getHH (bends (putH h) (ls.take (min ls.length 20)))).v0.2.2.2), [.bool ((getHH (bends (putH h) (ls.take (min ls.length 20)))).v1.1)], [.int .u64 (((getHH (bends (putH h) (ls.take (min ls.length 20)))).v1.2.1 : Nat) : Int)], bv ((getHH (bends (putH h) (ls.take (min ls.length 20)))).v1.2.2.1), bv ((getHH (bends (putH h) (ls.take (min ls.length 20)))).v1.2.2.2), [.bool ((getHH (bends (putH h) (ls.take (min ls.length 20)))).s0.1)], [.int .i64 ((getHH (bends (putH h) (ls.take (min ls.length 20)))).s0.2.1)], bv ((getHH (bends (putH h) (ls.take (min ls.length 20)))).s0.2.2.1), bv ((getHH (bends (putH h) (ls.take (min ls.length 20)))).s0.2.2.2.1), bv ((getHH (bends (putH h) (ls.take (min ls.length 20)))).s0.2.2.2.2), [.bool ((getHH (bends (putH h) (ls.take (min ls.length 20)))).s1.1)], [.int .i64 ((getHH (bends (putH h) (ls.take (min ls.length 20)))).s1.2.1)], bv ((getHH (bends (putH h) (ls.take (min ls.length 20)))).s1.2.2.1), bv ((getHH (bends (putH h) (ls.take (min ls.length 20)))).s1.2.2.2.1), bv ((getHH (bends (putH h) (ls.take (min ls.length 20)))).s1.2.2.2.2), [.bool ((getHH (bends (putH h) (ls.take (min ls.length 20)))).s2.1)], [.int .i64 ((getHH (bends (putH h) (ls.take (min ls.length 20)))).s2.2.1)], bv ((getHH (bends (putH h) (ls.take (min ls.length 20)))).s2.2.2.1), bv ((getHH (bends (putH h) (ls.take (min ls.length 20)))).s2.2.2.2.1), bv ((getHH (bends (putH h) (ls.take (min ls.length 20)))).s2.2.2.2.2), [.bool ((getHH (bends (putH h) (ls.take (min ls.length 20)))).s3.1)], [.int .i64 ((getHH (bends (putH h) (ls.take (min ls.length 20)))).s3.2.1)], bv ((getHH (bends (putH h) (ls.take (min ls.length 20)))).s3.2.2.1), bv ((getHH (bends (putH h) (ls.take (min ls.length 20)))).s3.2.2.2.1), bv ((getHH (bends (putH h) (ls.take (min ls.length 20)))).s3.2.2.2.2)] : List (List Value)).flatten.toArray from (by first | rfl | simp only [List.flatten_cons, List.flatten_nil, List.append_nil, List.append_assoc]))
            refine g_yes hE rfl rfl ?_
            refine s_loadN hE rfl (hM.get 3 rfl) row39 rfl (by intro X h; cases h) rfl ?_; clear hE a; intro a hE
            replace hE := hE.cast 89 rfl (show _ = Value.agg ([[.int .i64 h.m], [.int .i64 h.r], [.bool h.v0.1], [.int .u64 ((h.v0.2.1 : Nat) : Int)], bv h.v0.2.2.1, bv h.v0.2.2.2, [.bool h.v1.1], [.int .u64 ((h.v1.2.1 : Nat) : Int)], bv h.v1.2.2.1, bv h.v1.2.2.2, [.bool h.s0.1], [.int .i64 h.s0.2.1], bv h.s0.2.2.1, bv h.s0.2.2.2.1, bv h.s0.2.2.2.2, [.bool h.s1.1], [.int .i64 h.s1.2.1], bv h.s1.2.2.1, bv h.s1.2.2.2.1, bv h.s1.2.2.2.2, [.bool h.s2.1], [.int .i64 h.s2.2.1], bv h.s2.2.2.1, bv h.s2.2.2.2.1, bv h.s2.2.2.2.2, [.bool h.s3.1], [.int .i64 h.s3.2.1], bv h.s3.2.2.1, bv h.s3.2.2.2.1, bv h.s3.2.2.2.2] : List (List Value)).flatten.toArray from (by first | rfl | simp only [List.flatten_cons, List.flatten_nil, List.append_nil, List.append_assoc]))
            refine g_yes hE rfl rfl ?_
            refine s_bin hE rfl rfl ((eqk39 (b := decide ((((getHH (bends (putH h) (ls.take (min ls.length 20)))).m) : Int) = h.m ∧ (((getHH (bends (putH h) (ls.take (min ls.length 20)))).r) : Int) = h.r ∧ ((getHH (bends (putH h) (ls.take (min ls.length 20)))).v0.1) = h.v0.1 ∧ ((((getHH (bends (putH h) (ls.take (min ls.length 20)))).v0.2.1 : Nat) : Int) : Int) = ((h.v0.2.1 : Nat) : Int) ∧ ((getHH (bends (putH h) (ls.take (min ls.length 20)))).v0.2.2.1) = h.v0.2.2.1 ∧ ((getHH (bends (putH h) (ls.take (min ls.length 20)))).v0.2.2.2) = h.v0.2.2.2 ∧ ((getHH (bends (putH h) (ls.take (min ls.length 20)))).v1.1) = h.v1.1 ∧ ((((getHH (bends (putH h) (ls.take (min ls.length 20)))).v1.2.1 : Nat) : Int) : Int) = ((h.v1.2.1 : Nat) : Int) ∧ ((getHH (bends (putH h) (ls.take (min ls.length 20)))).v1.2.2.1) = h.v1.2.2.1 ∧ ((getHH (bends (putH h) (ls.take (min ls.length 20)))).v1.2.2.2) = h.v1.2.2.2 ∧ ((getHH (bends (putH h) (ls.take (min ls.length 20)))).s0.1) = h.s0.1 ∧ (((getHH (bends (putH h) (ls.take (min ls.length 20)))).s0.2.1) : Int) = h.s0.2.1 ∧ ((getHH (bends (putH h) (ls.take (min ls.length 20)))).s0.2.2.1) = h.s0.2.2.1 ∧ ((getHH (bends (putH h) (ls.take (min ls.length 20)))).s0.2.2.2.1) = h.s0.2.2.2.1 ∧ ((getHH (bends (putH h) (ls.take (min ls.length 20)))).s0.2.2.2.2) = h.s0.2.2.2.2 ∧ ((getHH (bends (putH h) (ls.take (min ls.length 20)))).s1.1) = h.s1.1 ∧ (((getHH (bends (putH h) (ls.take (min ls.length 20)))).s1.2.1) : Int) = h.s1.2.1 ∧ ((getHH (bends (putH h) (ls.take (min ls.length 20)))).s1.2.2.1) = h.s1.2.2.1 ∧ ((getHH (bends (putH h) (ls.take (min ls.length 20)))).s1.2.2.2.1) = h.s1.2.2.2.1 ∧ ((getHH (bends (putH h) (ls.take (min ls.length 20)))).s1.2.2.2.2) = h.s1.2.2.2.2 ∧ ((getHH (bends (putH h) (ls.take (min ls.length 20)))).s2.1) = h.s2.1 ∧ (((getHH (bends (putH h) (ls.take (min ls.length 20)))).s2.2.1) : Int) = h.s2.2.1 ∧ ((getHH (bends (putH h) (ls.take (min ls.length 20)))).s2.2.2.1) = h.s2.2.2.1 ∧ ((getHH (bends (putH h) (ls.take (min ls.length 20)))).s2.2.2.2.1) = h.s2.2.2.2.1 ∧ ((getHH (bends (putH h) (ls.take (min ls.length 20)))).s2.2.2.2.2) = h.s2.2.2.2.2 ∧ ((getHH (bends (putH h) (ls.take (min ls.length 20)))).s3.1) = h.s3.1 ∧ (((getHH (bends (putH h) (ls.take (min ls.length 20)))).s3.2.1) : Int) = h.s3.2.1 ∧ ((getHH (bends (putH h) (ls.take (min ls.length 20)))).s3.2.2.1) = h.s3.2.2.1 ∧ ((getHH (bends (putH h) (ls.take (min ls.length 20)))).s3.2.2.2.1) = h.s3.2.2.2.1 ∧ ((getHH (bends (putH h) (ls.take (min ls.length 20)))).s3.2.2.2.2) = h.s3.2.2.2.2)) (klL39 (k := 0) (x0 := ((getHH (bends (putH h) (ls.take (min ls.length 20)))).m)) (x1 := ((getHH (bends (putH h) (ls.take (min ls.length 20)))).r)) (x2 := (getHH (bends (putH h) (ls.take (min ls.length 20)))).v0.1) (x3 := (((getHH (bends (putH h) (ls.take (min ls.length 20)))).v0.2.1 : Nat) : Int)) (x4 := (getHH (bends (putH h) (ls.take (min ls.length 20)))).v0.2.2.1) (x5 := (getHH (bends (putH h) (ls.take (min ls.length 20)))).v0.2.2.2) (x6 := (getHH (bends (putH h) (ls.take (min ls.length 20)))).v1.1) (x7 := (((getHH (bends (putH h) (ls.take (min ls.length 20)))).v1.2.1 : Nat) : Int)) (x8 := (getHH (bends (putH h) (ls.take (min ls.length 20)))).v1.2.2.1) (x9 := (getHH (bends (putH h) (ls.take (min ls.length 20)))).v1.2.2.2) (x10 := (getHH (bends (putH h) (ls.take (min ls.length 20)))).s0.1) (x11 := ((getHH (bends (putH h) (ls.take (min ls.length 20)))).s0.2.1)) (x12 := (getHH (bends (putH h) (ls.take (min ls.length 20)))).s0.2.2.1) (x13 := (getHH (bends (putH h) (ls.take (min ls.length 20)))).s0.2.2.2.1) (x14 := (getHH (bends (putH h) (ls.take (min ls.length 20)))).s0.2.2.2.2) (x15 := (getHH (bends (putH h) (ls.take (min ls.length 20)))).s1.1) (x16 := ((getHH (bends (putH h) (ls.take (min ls.length 20)))).s1.2.1)) (x17 := (getHH (bends (putH h) (ls.take (min ls.length 20)))).s1.2.2.1) (x18 := (getHH (bends (putH h) (ls.take (min ls.length 20)))).s1.2.2.2.1) (x19 := (getHH (bends (putH h) (ls.take (min ls.length 20)))).s1.2.2.2.2) (x20 := (getHH (bends (putH h) (ls.take (min ls.length 20)))).s2.1) (x21 := ((getHH (bends (putH h) (ls.take (min ls.length 20)))).s2.2.1)) (x22 := (getHH (bends (putH h) (ls.take (min ls.length 20)))).s2.2.2.1) (x23 := (getHH (bends (putH h) (ls.take (min ls.length 20)))).s2.2.2.2.1) (x24 := (getHH (bends (putH h) (ls.take (min ls.length 20)))).s2.2.2.2.2) (x25 := (getHH (bends (putH h) (ls.take (min ls.length 20)))).s3.1) (x26 := ((getHH (bends (putH h) (ls.take (min ls.length 20)))).s3.2.1)) (x27 := (getHH (bends (putH h) (ls.take (min ls.length 20)))).s3.2.2.1) (x28 := (getHH (bends (putH h) (ls.take (min ls.length 20)))).s3.2.2.2.1) (x29 := (getHH (bends (putH h) (ls.take (min ls.length 20)))).s3.2.2.2.2) (wf_i64 (getHH_ok ((bends_ok (l := ls.take (min ls.length 20)) ⟨hp8, putH_ok hk⟩).2)).m) (wf_i64 (getHH_ok ((bends_ok (l := ls.take (min ls.length 20)) ⟨hp8, putH_ok hk⟩).2)).r) (wf_u64 (getHH_ok ((bends_ok (l := ls.take (min ls.length 20)) ⟨hp8, putH_ok hk⟩).2)).v0.1) (getHH_ok ((bends_ok (l := ls.take (min ls.length 20)) ⟨hp8, putH_ok hk⟩).2)).v0.2.1 (getHH_ok ((bends_ok (l := ls.take (min ls.length 20)) ⟨hp8, putH_ok hk⟩).2)).v0.2.2 (wf_u64 (getHH_ok ((bends_ok (l := ls.take (min ls.length 20)) ⟨hp8, putH_ok hk⟩).2)).v1.1) (getHH_ok ((bends_ok (l := ls.take (min ls.length 20)) ⟨hp8, putH_ok hk⟩).2)).v1.2.1 (getHH_ok ((bends_ok (l := ls.take (min ls.length 20)) ⟨hp8, putH_ok hk⟩).2)).v1.2.2 (wf_i64 (getHH_ok ((bends_ok (l := ls.take (min ls.length 20)) ⟨hp8, putH_ok hk⟩).2)).s0.1) (getHH_ok ((bends_ok (l := ls.take (min ls.length 20)) ⟨hp8, putH_ok hk⟩).2)).s0.2.1 (getHH_ok ((bends_ok (l := ls.take (min ls.length 20)) ⟨hp8, putH_ok hk⟩).2)).s0.2.2.1 (getHH_ok ((bends_ok (l := ls.take (min ls.length 20)) ⟨hp8, putH_ok hk⟩).2)).s0.2.2.2 (wf_i64 (getHH_ok ((bends_ok (l := ls.take (min ls.length 20)) ⟨hp8, putH_ok hk⟩).2)).s1.1) (getHH_ok ((bends_ok (l := ls.take (min ls.length 20)) ⟨hp8, putH_ok hk⟩).2)).s1.2.1 (getHH_ok ((bends_ok (l := ls.take (min ls.length 20)) ⟨hp8, putH_ok hk⟩).2)).s1.2.2.1 (getHH_ok ((bends_ok (l := ls.take (min ls.length 20)) ⟨hp8, putH_ok hk⟩).2)).s1.2.2.2 (wf_i64 (getHH_ok ((bends_ok (l := ls.take (min ls.length 20)) ⟨hp8, putH_ok hk⟩).2)).s2.1) (getHH_ok ((bends_ok (l := ls.take (min ls.length 20)) ⟨hp8, putH_ok hk⟩).2)).s2.2.1 (getHH_ok ((bends_ok (l := ls.take (min ls.length 20)) ⟨hp8, putH_ok hk⟩).2)).s2.2.2.1 (getHH_ok ((bends_ok (l := ls.take (min ls.length 20)) ⟨hp8, putH_ok hk⟩).2)).s2.2.2.2 (wf_i64 (getHH_ok ((bends_ok (l := ls.take (min ls.length 20)) ⟨hp8, putH_ok hk⟩).2)).s3.1) (getHH_ok ((bends_ok (l := ls.take (min ls.length 20)) ⟨hp8, putH_ok hk⟩).2)).s3.2.1 (getHH_ok ((bends_ok (l := ls.take (min ls.length 20)) ⟨hp8, putH_ok hk⟩).2)).s3.2.2.1 (getHH_ok ((bends_ok (l := ls.take (min ls.length 20)) ⟨hp8, putH_ok hk⟩).2)).s3.2.2.2) (klL39 (k := 0) (x0 := h.m) (x1 := h.r) (x2 := h.v0.1) (x3 := ((h.v0.2.1 : Nat) : Int)) (x4 := h.v0.2.2.1) (x5 := h.v0.2.2.2) (x6 := h.v1.1) (x7 := ((h.v1.2.1 : Nat) : Int)) (x8 := h.v1.2.2.1) (x9 := h.v1.2.2.2) (x10 := h.s0.1) (x11 := h.s0.2.1) (x12 := h.s0.2.2.1) (x13 := h.s0.2.2.2.1) (x14 := h.s0.2.2.2.2) (x15 := h.s1.1) (x16 := h.s1.2.1) (x17 := h.s1.2.2.1) (x18 := h.s1.2.2.2.1) (x19 := h.s1.2.2.2.2) (x20 := h.s2.1) (x21 := h.s2.2.1) (x22 := h.s2.2.2.1) (x23 := h.s2.2.2.2.1) (x24 := h.s2.2.2.2.2) (x25 := h.s3.1) (x26 := h.s3.2.1) (x27 := h.s3.2.2.1) (x28 := h.s3.2.2.2.1) (x29 := h.s3.2.2.2.2) (wf_i64 hk.m) (wf_i64 hk.r) (wf_u64 hk.v0.1) hk.v0.2.1 hk.v0.2.2 (wf_u64 hk.v1.1) hk.v1.2.1 hk.v1.2.2 (wf_i64 hk.s0.1) hk.s0.2.1 hk.s0.2.2.1 hk.s0.2.2.2 (wf_i64 hk.s1.1) hk.s1.2.1 hk.s1.2.2.1 hk.s1.2.2.2 (wf_i64 hk.s2.1) hk.s2.2.1 hk.s2.2.2.1 hk.s2.2.2.2 (wf_i64 hk.s3.1) hk.s3.2.1 hk.s3.2.2.1 hk.s3.2.2.2) (by rw [flat_eq (by have hl_x4 : ((getHH (bends (putH h) (ls.take (min ls.length 20)))).v0.2.2.1).length = 32 := (getHH_ok ((bends_ok (l := ls.take (min ls.length 20)) ⟨hp8, putH_ok hk⟩).2)).v0.2.1; have hl_x5 : ((getHH (bends (putH h) (ls.take (min ls.length 20)))).v0.2.2.2).length = 32 := (getHH_ok ((bends_ok (l := ls.take (min ls.length 20)) ⟨hp8, putH_ok hk⟩).2)).v0.2.2; have hl_x8 : ((getHH (bends (putH h) (ls.take (min ls.length 20)))).v1.2.2.1).length = 32 := (getHH_ok ((bends_ok (l := ls.take (min ls.length 20)) ⟨hp8, putH_ok hk⟩).2)).v1.2.1; have hl_x9 : ((getHH (bends (putH h) (ls.take (min ls.length 20)))).v1.2.2.2).length = 32 := (getHH_ok ((bends_ok (l := ls.take (min ls.length 20)) ⟨hp8, putH_ok hk⟩).2)).v1.2.2; have hl_x12 : ((getHH (bends (putH h) (ls.take (min ls.length 20)))).s0.2.2.1).length = 16 := (getHH_ok ((bends_ok (l := ls.take (min ls.length 20)) ⟨hp8, putH_ok hk⟩).2)).s0.2.1; have hl_x13 : ((getHH (bends (putH h) (ls.take (min ls.length 20)))).s0.2.2.2.1).length = 32 := (getHH_ok ((bends_ok (l := ls.take (min ls.length 20)) ⟨hp8, putH_ok hk⟩).2)).s0.2.2.1; have hl_x14 : ((getHH (bends (putH h) (ls.take (min ls.length 20)))).s0.2.2.2.2).length = 32 := (getHH_ok ((bends_ok (l := ls.take (min ls.length 20)) ⟨hp8, putH_ok hk⟩).2)).s0.2.2.2; have hl_x17 : ((getHH (bends (putH h) (ls.take (min ls.length 20)))).s1.2.2.1).length = 16 := (getHH_ok ((bends_ok (l := ls.take (min ls.length 20)) ⟨hp8, putH_ok hk⟩).2)).s1.2.1; have hl_x18 : ((getHH (bends (putH h) (ls.take (min ls.length 20)))).s1.2.2.2.1).length = 32 := (getHH_ok ((bends_ok (l := ls.take (min ls.length 20)) ⟨hp8, putH_ok hk⟩).2)).s1.2.2.1; have hl_x19 : ((getHH (bends (putH h) (ls.take (min ls.length 20)))).s1.2.2.2.2).length = 32 := (getHH_ok ((bends_ok (l := ls.take (min ls.length 20)) ⟨hp8, putH_ok hk⟩).2)).s1.2.2.2; have hl_x22 : ((getHH (bends (putH h) (ls.take (min ls.length 20)))).s2.2.2.1).length = 16 := (getHH_ok ((bends_ok (l := ls.take (min ls.length 20)) ⟨hp8, putH_ok hk⟩).2)).s2.2.1; have hl_x23 : ((getHH (bends (putH h) (ls.take (min ls.length 20)))).s2.2.2.2.1).length = 32 := (getHH_ok ((bends_ok (l := ls.take (min ls.length 20)) ⟨hp8, putH_ok hk⟩).2)).s2.2.2.1; have hl_x24 : ((getHH (bends (putH h) (ls.take (min ls.length 20)))).s2.2.2.2.2).length = 32 := (getHH_ok ((bends_ok (l := ls.take (min ls.length 20)) ⟨hp8, putH_ok hk⟩).2)).s2.2.2.2; have hl_x27 : ((getHH (bends (putH h) (ls.take (min ls.length 20)))).s3.2.2.1).length = 16 := (getHH_ok ((bends_ok (l := ls.take (min ls.length 20)) ⟨hp8, putH_ok hk⟩).2)).s3.2.1; have hl_x28 : ((getHH (bends (putH h) (ls.take (min ls.length 20)))).s3.2.2.2.1).length = 32 := (getHH_ok ((bends_ok (l := ls.take (min ls.length 20)) ⟨hp8, putH_ok hk⟩).2)).s3.2.2.1; have hl_x29 : ((getHH (bends (putH h) (ls.take (min ls.length 20)))).s3.2.2.2.2).length = 32 := (getHH_ok ((bends_ok (l := ls.take (min ls.length 20)) ⟨hp8, putH_ok hk⟩).2)).s3.2.2.2; have hl_y4 : h.v0.2.2.1.length = 32 := hk.v0.2.1; have hl_y5 : h.v0.2.2.2.length = 32 := hk.v0.2.2; have hl_y8 : h.v1.2.2.1.length = 32 := hk.v1.2.1; have hl_y9 : h.v1.2.2.2.length = 32 := hk.v1.2.2; have hl_y12 : h.s0.2.2.1.length = 16 := hk.s0.2.1; have hl_y13 : h.s0.2.2.2.1.length = 32 := hk.s0.2.2.1; have hl_y14 : h.s0.2.2.2.2.length = 32 := hk.s0.2.2.2; have hl_y17 : h.s1.2.2.1.length = 16 := hk.s1.2.1; have hl_y18 : h.s1.2.2.2.1.length = 32 := hk.s1.2.2.1; have hl_y19 : h.s1.2.2.2.2.length = 32 := hk.s1.2.2.2; have hl_y22 : h.s2.2.2.1.length = 16 := hk.s2.2.1; have hl_y23 : h.s2.2.2.2.1.length = 32 := hk.s2.2.2.1; have hl_y24 : h.s2.2.2.2.2.length = 32 := hk.s2.2.2.2; have hl_y27 : h.s3.2.2.1.length = 16 := hk.s3.2.1; have hl_y28 : h.s3.2.2.2.1.length = 32 := hk.s3.2.2.1; have hl_y29 : h.s3.2.2.2.2.length = 32 := hk.s3.2.2.2; simp only [List.map_cons, List.map_nil, bv_length, List.length_cons, List.length_nil, hl_x4, hl_x5, hl_x8, hl_x9, hl_x12, hl_x13, hl_x14, hl_x17, hl_x18, hl_x19, hl_x22, hl_x23, hl_x24, hl_x27, hl_x28, hl_x29, hl_y4, hl_y5, hl_y8, hl_y9, hl_y12, hl_y13, hl_y14, hl_y17, hl_y18, hl_y19, hl_y22, hl_y23, hl_y24, hl_y27, hl_y28, hl_y29])]; simp [bv_iff, Int.ofNat_inj]; try omega)).1) rfl ?_; clear hE a; intro a hE
            refine s_pickt hE rfl rfl rfl ?_; clear hE a; intro a hE
            refine s_move hE rfl rfl ?_; clear hE a; intro a hE
            refine s_bin hE rfl rfl (bins_bool Try.underlying4).1 rfl ?_; clear hE a; intro a hE
            refine s_move hE rfl rfl ?_; clear hE a; intro a hE
            replace hE := hE.cast 94 rfl (show _ = Value.bool true from (congrArg Value.bool (by have he := takeEq_end hp8 ((bends_ok (l := ls.take (min ls.length 20)) ⟨hp8, putH_ok hk⟩)).1; first | (show (_ == _) = true; rw [he, beq_iff_eq]; exact decide_eq_decide.2 ((hd_leaves _ _).trans ⟨fun e => (bend_same hk hc0 ((bends_ok (l := ls.take (min ls.length 20)) ⟨hp8, putH_ok hk⟩)).2).1 ⟨hb87, e⟩, fun e => ((bend_same hk hc0 ((bends_ok (l := ls.take (min ls.length 20)) ⟨hp8, putH_ok hk⟩)).2).2 e).2⟩)) | (show (_ == _) = true; rw [he, beq_iff_eq]; exact (decide_eq_false (fun e => hb87 ((bend_same hk hc0 ((bends_ok (l := ls.take (min ls.length 20)) ⟨hp8, putH_ok hk⟩)).2).2 e).1)).symm))))
            refine g_yes hE rfl rfl ?_
            refine s_call hE rfl Try.call13 (works24_c  _ ) rfl ?_
            rintro e w10 ⟨rfl, hN⟩
            refine ⟨_, rfl, trivial, ?_⟩; clear hE a; intro a hE
            replace hM : Mem _ _ w10 [_, _, _, _, _] := hM.call0 hN trivial; clear hN
            refine s_pickt hE rfl rfl rfl ?_; clear hE a; intro a hE
            refine s_assign hE rfl rfl ?_; clear hE a; intro a hE
            refine q_nil ?_
            replace hE : Env a 97 [(1, _), (2, _), (4, _), (5, _), (7, _), (8, _), (10, _), (11, _), (12, _), (20, _), (24, _), (35, _), (65, _)] := hE.sel [1, 2, 4, 5, 7, 8, 10, 11, 12, 20, 24, 35, 65] rfl
            refine hK18 _ _ ?_
            refine wp_ret ?_
            refine f_ret1 hE rfl rfl ?_
            exact ⟨(by first | rfl | (simp; done)), hM.pick [] rfl⟩
          · replace hE := hE'; clear hE'
            replace hb87 := of_decide_eq_false hb87
            replace hb87 : ¬ ((getEH (bends (putH h) (ls.take (min ls.length 20)))) = 0) := by omega
            refine g_no (b := false) hE rfl rfl rfl ?_; clear hE a; intro a hE
            refine g_no (b := false) hE rfl rfl rfl ?_; clear hE a; intro a hE
            refine g_no (b := false) hE rfl rfl rfl ?_; clear hE a; intro a hE
            refine s_pickf hE rfl rfl rfl ?_; clear hE a; intro a hE
            refine s_move hE rfl rfl ?_; clear hE a; intro a hE
            refine s_bin hE rfl rfl (bins_bool Try.underlying4).1 rfl ?_; clear hE a; intro a hE
            refine s_move hE rfl rfl ?_; clear hE a; intro a hE
            replace hE := hE.cast 94 rfl (show _ = Value.bool true from (congrArg Value.bool (by have he := takeEq_end hp8 ((bends_ok (l := ls.take (min ls.length 20)) ⟨hp8, putH_ok hk⟩)).1; first | (show (_ == _) = true; rw [he, beq_iff_eq]; exact decide_eq_decide.2 ((hd_leaves _ _).trans ⟨fun e => (bend_same hk hc0 ((bends_ok (l := ls.take (min ls.length 20)) ⟨hp8, putH_ok hk⟩)).2).1 ⟨hb87, e⟩, fun e => ((bend_same hk hc0 ((bends_ok (l := ls.take (min ls.length 20)) ⟨hp8, putH_ok hk⟩)).2).2 e).2⟩)) | (show (_ == _) = true; rw [he, beq_iff_eq]; exact (decide_eq_false (fun e => hb87 ((bend_same hk hc0 ((bends_ok (l := ls.take (min ls.length 20)) ⟨hp8, putH_ok hk⟩)).2).2 e).1)).symm))))
            refine g_yes hE rfl rfl ?_
            refine s_call hE rfl Try.call13 (works24_c  _ ) rfl ?_
            rintro e w10 ⟨rfl, hN⟩
            refine ⟨_, rfl, trivial, ?_⟩; clear hE a; intro a hE
            replace hM : Mem _ _ w10 [_, _, _, _, _] := hM.call0 hN trivial; clear hN
            refine s_pickt hE rfl rfl rfl ?_; clear hE a; intro a hE
            refine s_assign hE rfl rfl ?_; clear hE a; intro a hE
            refine q_nil ?_
            replace hE : Env a 97 [(1, _), (2, _), (4, _), (5, _), (7, _), (8, _), (10, _), (11, _), (12, _), (20, _), (24, _), (35, _), (65, _)] := hE.sel [1, 2, 4, 5, 7, 8, 10, 11, 12, 20, 24, 35, 65] rfl
            refine hK18 _ _ ?_
            refine wp_ret ?_
            refine f_ret1 hE rfl rfl ?_
            exact ⟨(by first | rfl | (simp; done)), hM.pick [] rfl⟩
    · replace hE := hE'; clear hE'
      replace hb32 := of_decide_eq_false hb32
      replace hb32 : ¬ (i < ls.length) := by omega
      obtain rfl : i = min ls.length 20 := by omega
      refine g_no (b := false) hE rfl rfl rfl ?_; clear hE a; intro a hE
      refine g_no (b := false) hE rfl rfl rfl ?_; clear hE a; intro a hE
      refine s_pickf hE rfl rfl rfl ?_; clear hE a; intro a hE
      refine q_nil ?_
      replace hE : Env a 97 [(1, _), (2, _), (4, _), (5, _), (7, _), (8, _), (20, _), (24, _), (35, _)] := hE.sel [1, 2, 4, 5, 7, 8, 20, 24, 35] rfl
      refine hK11 _ _ ?_
      refine wp_cond_false (hE.eval rfl) ?_
      refine wp_exit ?_
      refine q_then_e ?_
      refine q_then_e ?_
      refine q_block_x ?_
      refine hK8 _ _ ?_
      refine wp_seq_k (fun K12 hK12 => ?_)
      refine wp_plain [true] rfl rfl ?_
      refine s_assign hE rfl rfl ?_; clear hE a; intro a hE
      refine q_nil ?_
      refine hK12 _ _ ?_
      refine wp_seq_k (fun K13 hK13 => ?_)
      refine wp_seq_k (fun K14 hK14 => ?_)
      refine wp_plain [true] rfl rfl ?_
      refine s_assign hE rfl rfl ?_; clear hE a; intro a hE
      refine q_nil ?_
      refine hK14 _ _ ?_
      refine wp_block ?_
      replace hE := hE.cast 10 rfl (show _ = Value.bool (takeEq (putH h) (bends (putH h) (ls.take (min ls.length 20))) 0) from (congrArg Value.bool takeEq_zero))
      refine c_loop (fun (q : Nat) a w' => q ≤ 8 ∧ Env a 97 [(1, u), (2, .pointer (some ⟨b2, 0, none⟩)), (4, .bool false), (5, v16_0), (7, v27), (8, .int .i64 (((min ls.length 20) : Nat) : Int)), (10, .bool (takeEq (putH h) (bends (putH h) (ls.take (min ls.length 20))) q)), (11, .int .i64 ((q : Nat) : Int)), (20, .bool false), (24, .bool false), (35, .bool false)] ∧ Mem w [] w' [own v27 64 ((bends (putH h) (ls.take (min ls.length 20))).length) ((bends (putH h) (ls.take (min ls.length 20))).flatMap bv), own v16_0 64 ((putH h).length) ((putH h).flatMap bv), blk b2 [[.int .i64 h.m], [.int .i64 h.r], [.bool h.v0.1], [.int .u64 ((h.v0.2.1 : Nat) : Int)], bv h.v0.2.2.1, bv h.v0.2.2.2, [.bool h.v1.1], [.int .u64 ((h.v1.2.1 : Nat) : Int)], bv h.v1.2.2.1, bv h.v1.2.2.2, [.bool h.s0.1], [.int .i64 h.s0.2.1], bv h.s0.2.2.1, bv h.s0.2.2.2.1, bv h.s0.2.2.2.2, [.bool h.s1.1], [.int .i64 h.s1.2.1], bv h.s1.2.2.1, bv h.s1.2.2.2.1, bv h.s1.2.2.2.2, [.bool h.s2.1], [.int .i64 h.s2.2.1], bv h.s2.2.2.1, bv h.s2.2.2.2.1, bv h.s2.2.2.2.2, [.bool h.s3.1], [.int .i64 h.s3.2.1], bv h.s3.2.2.1, bv h.s3.2.2.2.1, bv h.s3.2.2.2.2] [1, 1, 1, 1, 32, 32, 1, 1, 32, 32, 1, 1, 16, 32, 32, 1, 1, 16, 32, 32, 1, 1, 16, 32, 32, 1, 1, 16, 32, 32] 39, rd u 2 ls.length lc (ls.flatMap pairC)]) (fun q => 8 - q) 0 ⟨Nat.zero_le _, hE.sel [1, 2, 4, 5, 7, 8, 10, 11, 20, 24, 35] rfl, hM⟩ ?_
      clear hE hM a; rintro q a w6 ⟨hq, hE, hM⟩
      refine wp_seq_k (fun K15 hK15 => ?_)
      refine wp_seq_k (fun K16 hK16 => ?_)
      refine wp_plain [true, true, true, true] rfl rfl ?_
      refine s_move hE rfl rfl ?_; clear hE a; intro a hE
      refine s_move hE rfl rfl ?_; clear hE a; intro a hE
      refine s_len hE rfl Try.underlying40 (own_slice (hM.get 1 rfl)) rfl ?_; clear hE a; intro a hE
      refine s_bin hE rfl rfl bin_lss rfl ?_; clear hE a; intro a hE
      refine q_nil ?_
      replace hE : Env a 97 [(1, _), (2, _), (4, _), (5, _), (7, _), (8, _), (10, _), (11, _), (20, _), (24, _), (35, _), (65, _)] := hE.sel [1, 2, 4, 5, 7, 8, 10, 11, 20, 24, 35, 65] rfl
      refine hK16 _ _ ?_
      refine hE.split 65 rfl (fun hb65 hE' => ?_) (fun hb65 hE' => ?_)
      · replace hE := hE'; clear hE'
        replace hb65 := of_decide_eq_true hb65
        replace hb65 : q < ((putH h).length) := by omega
        replace hb65 : q < 8 := by omega
        refine wp_cond_true (hE.eval rfl) ?_
        refine wp_skip ?_
        refine hK15 _ _ ?_
        refine wp_seq_k (fun K17 hK17 => ?_)
        refine wp_block ?_
        refine wp_drawnM hM (by kernel_rfl) (fun _ => False) [(0, true), (1, true), (2, true), (3, true), (4, true), (5, true), (6, true), (7, true), (8, true), (9, true), (10, true), (11, true), (12, true)] [] (by kernel_rfl) rfl ?_
        intro w7 hM' hww7; clear hM; have hM := hM'; clear hM'
        refine s_move hE rfl rfl ?_; clear hE a; intro a hE
        refine s_move hE rfl rfl ?_; clear hE a; intro a hE
        refine hE.split 69 rfl (fun hb69 hE' => ?_) (fun hb69 hE' => ?_)
        · replace hE := hE'; clear hE'
          refine g_yes hE rfl rfl ?_
          refine s_move hE rfl rfl ?_; clear hE a; intro a hE
          refine g_yes hE rfl rfl ?_
          refine s_move hE rfl rfl ?_; clear hE a; intro a hE
          refine g_yes hE rfl rfl ?_
          obtain ⟨cx72, hx72⟩ := own_rd (hM.get 1 rfl)
          refine s_indexRd (j := q) hE rfl hx72 rfl slt40 (by first | rfl | omega) (by first | omega | (have := ((bends_ok (l := ls.take (min ls.length 20)) ⟨hp8, putH_ok hk⟩)).1; omega)) rfl ?_; clear hE a; intro a p72 hE hc72 hp72
          have hlj72 : q < (putH h).length := (by first | omega | (have := ((bends_ok (l := ls.take (min ls.length 20)) ⟨hp8, putH_ok hk⟩)).1; omega))
          have hok72 := (putH_ok hk) _ (getD_mem (d := (List.replicate 64 (0 : UInt8))) hlj72)
          rw [flat_elem (d := (List.replicate 64 (0 : UInt8))) (fun x hx => ((bv_length _).trans (putH_ok hk x hx))) hlj72] at hc72
          refine g_yes hE rfl rfl ?_
          refine s_loadAtN hE rfl hc72 (by rw [((bv_length _).trans hok72)]; exact row59) (by intro X h; cases h; simp) rfl ?_; clear hE a; intro a hE
          replace hE := hE.cast 73 rfl (show _ = Value.agg (bv ((putH h).getD q (List.replicate 64 (0 : UInt8)))).toArray from rfl)
          refine g_yes hE rfl rfl ?_
          refine s_move hE rfl rfl ?_; clear hE a; intro a hE
          refine g_yes hE rfl rfl ?_
          refine s_move hE rfl rfl ?_; clear hE a; intro a hE
          refine g_yes hE rfl rfl ?_
          obtain ⟨cx76, hx76⟩ := own_rd (hM.get 0 rfl)
          refine s_indexRd (j := q) hE rfl hx76 rfl slt40 (by first | rfl | omega) (by first | omega | (have := ((bends_ok (l := ls.take (min ls.length 20)) ⟨hp8, putH_ok hk⟩)).1; omega)) rfl ?_; clear hE a; intro a p76 hE hc76 hp76
          have hlj76 : q < (bends (putH h) (ls.take (min ls.length 20))).length := (by first | omega | (have := ((bends_ok (l := ls.take (min ls.length 20)) ⟨hp8, putH_ok hk⟩)).1; omega))
          have hok76 := ((bends_ok (l := ls.take (min ls.length 20)) ⟨hp8, putH_ok hk⟩).2) _ (getD_mem (d := (List.replicate 64 (0 : UInt8))) hlj76)
          rw [flat_elem (d := (List.replicate 64 (0 : UInt8))) (fun x hx => ((bv_length _).trans ((bends_ok (l := ls.take (min ls.length 20)) ⟨hp8, putH_ok hk⟩).2 x hx))) hlj76] at hc76
          refine g_yes hE rfl rfl ?_
          refine s_loadAtN hE rfl hc76 (by rw [((bv_length _).trans hok76)]; exact row59) (by intro X h; cases h; simp) rfl ?_; clear hE a; intro a hE
          replace hE := hE.cast 77 rfl (show _ = Value.agg (bv ((bends (putH h) (ls.take (min ls.length 20))).getD q (List.replicate 64 (0 : UInt8)))).toArray from rfl)
          refine g_yes hE rfl rfl ?_
          refine s_bin hE rfl rfl (eqa59 (by first | assumption | (simp; done) | (simp [*]; done)) (by first | assumption | (simp; done) | (simp [*]; done))).1 rfl ?_; clear hE a; intro a hE
          refine s_pickt hE rfl rfl rfl ?_; clear hE a; intro a hE
          refine s_assign hE rfl rfl ?_; clear hE a; intro a hE
          refine q_nil ?_
          replace hE : Env a 97 [(1, _), (2, _), (4, _), (5, _), (7, _), (8, _), (10, _), (11, _), (20, _), (24, _), (35, _), (65, _)] := hE.sel [1, 2, 4, 5, 7, 8, 10, 11, 20, 24, 35, 65] rfl
          refine q_block_n ?_
          refine hK17 _ _ ?_
          refine wp_plain [true, true, true] rfl rfl ?_
          refine s_move hE rfl rfl ?_; clear hE a; intro a hE
          refine s_bin hE rfl rfl (show Bin _ _ _ _ _ (.int .i64 ((q + 1 : Nat) : Int)) from bin_add (by rw [wrap_i64 (by omega) (by omega)]; omega)) rfl ?_; clear hE a; intro a hE
          refine s_assign hE rfl rfl ?_; clear hE a; intro a hE
          refine q_nil ?_
          replace hE : Env a 97 [(1, _), (2, _), (4, _), (5, _), (7, _), (8, _), (10, _), (11, _), (20, _), (24, _), (35, _), (65, _)] := hE.sel [1, 2, 4, 5, 7, 8, 10, 11, 20, 24, 35, 65] rfl
          replace hE := hE.cast 10 rfl (show _ = Value.bool (takeEq (putH h) (bends (putH h) (ls.take (min ls.length 20))) (q + 1)) from (congrArg Value.bool (by first | exact takeEq_no (by assumption) | exact takeEq_succ (by assumption) (by omega) (by have := ((bends_ok (l := ls.take (min ls.length 20)) ⟨hp8, putH_ok hk⟩)).1; omega))))
          replace hE := hE.cast 11 rfl (show _ = Value.int .i64 (((q + 1) : Nat) : Int) from (congrArg _ (by omega)))
          replace hM : Mem _ _ w7 [_, _, _, _] := hM.pick [0, 1, 2, 3] rfl
          exact ⟨q + 1, ⟨by omega, hE.sel [1, 2, 4, 5, 7, 8, 10, 11, 20, 24, 35] rfl, hM⟩, by omega⟩
        · replace hE := hE'; clear hE'
          refine g_no (b := false) hE rfl rfl rfl ?_; clear hE a; intro a hE
          refine g_no (b := false) hE rfl rfl rfl ?_; clear hE a; intro a hE
          refine g_no (b := false) hE rfl rfl rfl ?_; clear hE a; intro a hE
          refine g_no (b := false) hE rfl rfl rfl ?_; clear hE a; intro a hE
          refine g_no (b := false) hE rfl rfl rfl ?_; clear hE a; intro a hE
          refine g_no (b := false) hE rfl rfl rfl ?_; clear hE a; intro a hE
          refine g_no (b := false) hE rfl rfl rfl ?_; clear hE a; intro a hE
          refine g_no (b := false) hE rfl rfl rfl ?_; clear hE a; intro a hE
          refine g_no (b := false) hE rfl rfl rfl ?_; clear hE a; intro a hE
          refine s_pickf hE rfl rfl rfl ?_; clear hE a; intro a hE
          refine s_assign hE rfl rfl ?_; clear hE a; intro a hE
          refine q_nil ?_
          replace hE : Env a 97 [(1, _), (2, _), (4, _), (5, _), (7, _), (8, _), (10, _), (11, _), (20, _), (24, _), (35, _), (65, _)] := hE.sel [1, 2, 4, 5, 7, 8, 10, 11, 20, 24, 35, 65] rfl
          refine q_block_n ?_
          refine hK17 _ _ ?_
          refine wp_plain [true, true, true] rfl rfl ?_
          refine s_move hE rfl rfl ?_; clear hE a; intro a hE
          refine s_bin hE rfl rfl (show Bin _ _ _ _ _ (.int .i64 ((q + 1 : Nat) : Int)) from bin_add (by rw [wrap_i64 (by omega) (by omega)]; omega)) rfl ?_; clear hE a; intro a hE
          refine s_assign hE rfl rfl ?_; clear hE a; intro a hE
          refine q_nil ?_
          replace hE : Env a 97 [(1, _), (2, _), (4, _), (5, _), (7, _), (8, _), (10, _), (11, _), (20, _), (24, _), (35, _), (65, _)] := hE.sel [1, 2, 4, 5, 7, 8, 10, 11, 20, 24, 35, 65] rfl
          replace hE := hE.cast 10 rfl (show _ = Value.bool (takeEq (putH h) (bends (putH h) (ls.take (min ls.length 20))) (q + 1)) from (congrArg Value.bool (by first | exact takeEq_no (by assumption) | exact takeEq_succ (by assumption) (by omega) (by have := ((bends_ok (l := ls.take (min ls.length 20)) ⟨hp8, putH_ok hk⟩)).1; omega))))
          replace hE := hE.cast 11 rfl (show _ = Value.int .i64 (((q + 1) : Nat) : Int) from (congrArg _ (by omega)))
          replace hM : Mem _ _ w7 [_, _, _, _] := hM.pick [0, 1, 2, 3] rfl
          exact ⟨q + 1, ⟨by omega, hE.sel [1, 2, 4, 5, 7, 8, 10, 11, 20, 24, 35] rfl, hM⟩, by omega⟩
      · replace hE := hE'; clear hE'
        replace hb65 := of_decide_eq_false hb65
        replace hb65 : ¬ (q < ((putH h).length)) := by omega
        obtain rfl : 8 = q := by omega
        refine wp_cond_false (hE.eval rfl) ?_
        refine wp_exit ?_
        refine q_then_e ?_
        refine q_then_e ?_
        refine q_block_x ?_
        refine hK13 _ _ ?_
        refine wp_seq_k (fun K17 hK17 => ?_)
        refine wp_plain [true, false, true, true, true, false, false, true] rfl rfl ?_
        refine s_move hE rfl rfl ?_; clear hE a; intro a hE
        obtain ⟨cq3, hq3⟩ := own_rd (hM.get 0 rfl)
        refine s_call hE rfl Try.call14 (hget_a _ (bends (putH h) (ls.take (min ls.length 20))) _ _ hq3 ((bends_ok (l := ls.take (min ls.length 20)) ⟨hp8, putH_ok hk⟩).2) (by have := ((bends_ok (l := ls.take (min ls.length 20)) ⟨hp8, putH_ok hk⟩)).1; omega)) rfl ?_
        rintro e w7 ⟨rfl, hN⟩
        refine ⟨_, rfl, trivial, ?_⟩; clear hE a; intro a hE
        replace hM : Mem _ _ w7 [_, _, _, _] := hM.call0 hN trivial; clear hN
        refine s_move hE rfl rfl ?_; clear hE a; intro a hE
        refine s_extract hE rfl rfl rfl ?_; clear hE a; intro a hE
        refine s_extract hE rfl rfl rfl ?_; clear hE a; intro a hE
        refine s_alloc [1, 1, 1, 1, 32, 32, 1, 1, 32, 32, 1, 1, 16, 32, 32, 1, 1, 16, 32, 32, 1, 1, 16, 32, 32, 1, 1, 16, 32, 32] hE hM zeroL39 rfl rfl ?_; clear hE a; intro a b12 w8 hE hM'
        clear hM; have hM := hM'; clear hM'
        have hsl605_4 : ((getHH (bends (putH h) (ls.take (min ls.length 20)))).v0.2.2.1).length = 32 := (getHH_ok ((bends_ok (l := ls.take (min ls.length 20)) ⟨hp8, putH_ok hk⟩).2)).v0.2.1
        have hsl605_5 : ((getHH (bends (putH h) (ls.take (min ls.length 20)))).v0.2.2.2).length = 32 := (getHH_ok ((bends_ok (l := ls.take (min ls.length 20)) ⟨hp8, putH_ok hk⟩).2)).v0.2.2
        have hsl605_8 : ((getHH (bends (putH h) (ls.take (min ls.length 20)))).v1.2.2.1).length = 32 := (getHH_ok ((bends_ok (l := ls.take (min ls.length 20)) ⟨hp8, putH_ok hk⟩).2)).v1.2.1
        have hsl605_9 : ((getHH (bends (putH h) (ls.take (min ls.length 20)))).v1.2.2.2).length = 32 := (getHH_ok ((bends_ok (l := ls.take (min ls.length 20)) ⟨hp8, putH_ok hk⟩).2)).v1.2.2
        have hsl605_12 : ((getHH (bends (putH h) (ls.take (min ls.length 20)))).s0.2.2.1).length = 16 := (getHH_ok ((bends_ok (l := ls.take (min ls.length 20)) ⟨hp8, putH_ok hk⟩).2)).s0.2.1
        have hsl605_13 : ((getHH (bends (putH h) (ls.take (min ls.length 20)))).s0.2.2.2.1).length = 32 := (getHH_ok ((bends_ok (l := ls.take (min ls.length 20)) ⟨hp8, putH_ok hk⟩).2)).s0.2.2.1
        have hsl605_14 : ((getHH (bends (putH h) (ls.take (min ls.length 20)))).s0.2.2.2.2).length = 32 := (getHH_ok ((bends_ok (l := ls.take (min ls.length 20)) ⟨hp8, putH_ok hk⟩).2)).s0.2.2.2
        have hsl605_17 : ((getHH (bends (putH h) (ls.take (min ls.length 20)))).s1.2.2.1).length = 16 := (getHH_ok ((bends_ok (l := ls.take (min ls.length 20)) ⟨hp8, putH_ok hk⟩).2)).s1.2.1
        have hsl605_18 : ((getHH (bends (putH h) (ls.take (min ls.length 20)))).s1.2.2.2.1).length = 32 := (getHH_ok ((bends_ok (l := ls.take (min ls.length 20)) ⟨hp8, putH_ok hk⟩).2)).s1.2.2.1
        have hsl605_19 : ((getHH (bends (putH h) (ls.take (min ls.length 20)))).s1.2.2.2.2).length = 32 := (getHH_ok ((bends_ok (l := ls.take (min ls.length 20)) ⟨hp8, putH_ok hk⟩).2)).s1.2.2.2
        have hsl605_22 : ((getHH (bends (putH h) (ls.take (min ls.length 20)))).s2.2.2.1).length = 16 := (getHH_ok ((bends_ok (l := ls.take (min ls.length 20)) ⟨hp8, putH_ok hk⟩).2)).s2.2.1
        have hsl605_23 : ((getHH (bends (putH h) (ls.take (min ls.length 20)))).s2.2.2.2.1).length = 32 := (getHH_ok ((bends_ok (l := ls.take (min ls.length 20)) ⟨hp8, putH_ok hk⟩).2)).s2.2.2.1
        have hsl605_24 : ((getHH (bends (putH h) (ls.take (min ls.length 20)))).s2.2.2.2.2).length = 32 := (getHH_ok ((bends_ok (l := ls.take (min ls.length 20)) ⟨hp8, putH_ok hk⟩).2)).s2.2.2.2
        have hsl605_27 : ((getHH (bends (putH h) (ls.take (min ls.length 20)))).s3.2.2.1).length = 16 := (getHH_ok ((bends_ok (l := ls.take (min ls.length 20)) ⟨hp8, putH_ok hk⟩).2)).s3.2.1
        have hsl605_28 : ((getHH (bends (putH h) (ls.take (min ls.length 20)))).s3.2.2.2.1).length = 32 := (getHH_ok ((bends_ok (l := ls.take (min ls.length 20)) ⟨hp8, putH_ok hk⟩).2)).s3.2.2.1
        have hsl605_29 : ((getHH (bends (putH h) (ls.take (min ls.length 20)))).s3.2.2.2.2).length = 32 := (getHH_ok ((bends_ok (l := ls.take (min ls.length 20)) ⟨hp8, putH_ok hk⟩).2)).s3.2.2.2
        refine s_storeSegs 0 30 (vss := [[.int .i64 ((getHH (bends (putH h) (ls.take (min ls.length 20)))).m)], [.int .i64 ((getHH (bends (putH h) (ls.take (min ls.length 20)))).r)], [.bool ((getHH (bends (putH h) (ls.take (min ls.length 20)))).v0.1)], [.int .u64 (((getHH (bends (putH h) (ls.take (min ls.length 20)))).v0.2.1 : Nat) : Int)], bv ((getHH (bends (putH h) (ls.take (min ls.length 20)))).v0.2.2.1), bv ((getHH (bends (putH h) (ls.take (min ls.length 20)))).v0.2.2.2), [.bool ((getHH (bends (putH h) (ls.take (min ls.length 20)))).v1.1)], [.int .u64 (((getHH (bends (putH h) (ls.take (min ls.length 20)))).v1.2.1 : Nat) : Int)], bv ((getHH (bends (putH h) (ls.take (min ls.length 20)))).v1.2.2.1), bv ((getHH (bends (putH h) (ls.take (min ls.length 20)))).v1.2.2.2), [.bool ((getHH (bends (putH h) (ls.take (min ls.length 20)))).s0.1)], [.int .i64 ((getHH (bends (putH h) (ls.take (min ls.length 20)))).s0.2.1)], bv ((getHH (bends (putH h) (ls.take (min ls.length 20)))).s0.2.2.1), bv ((getHH (bends (putH h) (ls.take (min ls.length 20)))).s0.2.2.2.1), bv ((getHH (bends (putH h) (ls.take (min ls.length 20)))).s0.2.2.2.2), [.bool ((getHH (bends (putH h) (ls.take (min ls.length 20)))).s1.1)], [.int .i64 ((getHH (bends (putH h) (ls.take (min ls.length 20)))).s1.2.1)], bv ((getHH (bends (putH h) (ls.take (min ls.length 20)))).s1.2.2.1), bv ((getHH (bends (putH h) (ls.take (min ls.length 20)))).s1.2.2.2.1), bv ((getHH (bends (putH h) (ls.take (min ls.length 20)))).s1.2.2.2.2), [.bool ((getHH (bends (putH h) (ls.take (min ls.length 20)))).s2.1)], [.int .i64 ((getHH (bends (putH h) (ls.take (min ls.length 20)))).s2.2.1)], bv ((getHH (bends (putH h) (ls.take (min ls.length 20)))).s2.2.2.1), bv ((getHH (bends (putH h) (ls.take (min ls.length 20)))).s2.2.2.2.1), bv ((getHH (bends (putH h) (ls.take (min ls.length 20)))).s2.2.2.2.2), [.bool ((getHH (bends (putH h) (ls.take (min ls.length 20)))).s3.1)], [.int .i64 ((getHH (bends (putH h) (ls.take (min ls.length 20)))).s3.2.1)], bv ((getHH (bends (putH h) (ls.take (min ls.length 20)))).s3.2.2.1), bv ((getHH (bends (putH h) (ls.take (min ls.length 20)))).s3.2.2.2.1), bv ((getHH (bends (putH h) (ls.take (min ls.length 20)))).s3.2.2.2.2)]) hE rfl rfl hM rfl sz39 (by simp only [List.take_succ_cons, List.take_zero, List.drop_zero, List.drop_succ_cons]; simp only [List.map_cons, List.map_nil, bv_length, List.length_cons, List.length_nil, List.length_replicate, hsl605_4, hsl605_5, hsl605_8, hsl605_9, hsl605_12, hsl605_13, hsl605_14, hsl605_17, hsl605_18, hsl605_19, hsl605_22, hsl605_23, hsl605_24, hsl605_27, hsl605_28, hsl605_29]) (by decide) rfl (one_fl ⟨one1 rfl, one1 rfl, one1 rfl, one1 rfl, bv_one _, bv_one _, one1 rfl, one1 rfl, bv_one _, bv_one _, one1 rfl, one1 rfl, bv_one _, bv_one _, bv_one _, one1 rfl, one1 rfl, bv_one _, bv_one _, bv_one _, one1 rfl, one1 rfl, bv_one _, bv_one _, bv_one _, one1 rfl, one1 rfl, bv_one _, bv_one _, bv_one _, trivial⟩) rfl (by intro X h; cases h) ?_; intro w9 hM'; clear hM; have hM := hM'; clear hM'
        try simp only [List.take_zero, List.take_succ_cons, List.drop_zero, List.drop_succ_cons, List.take_nil, List.drop_nil, List.nil_append, List.append_nil, List.cons_append] at hM
        refine s_assign hE rfl rfl ?_; clear hE a; intro a hE
        refine q_nil ?_
        replace hE : Env a 97 [(1, _), (2, _), (4, _), (5, _), (7, _), (8, _), (10, _), (11, _), (12, _), (13, _), (20, _), (24, _), (35, _), (65, _)] := hE.sel [1, 2, 4, 5, 7, 8, 10, 11, 12, 13, 20, 24, 35, 65] rfl
        refine hK17 _ _ ?_
        refine wp_seq_k (fun K18 hK18 => ?_)
        refine wp_plain [true, true, true, true, true, true, true, true, true, true, false, true, true] rfl rfl ?_
        refine s_move hE rfl rfl ?_; clear hE a; intro a hE
        refine s_bin hE rfl rfl bin_eql rfl ?_; clear hE a; intro a hE
        refine s_move hE rfl rfl ?_; clear hE a; intro a hE
        refine hE.split 87 rfl (fun hb87 hE' => ?_) (fun hb87 hE' => ?_)
        · replace hE := hE'; clear hE'
          replace hb87 := of_decide_eq_true hb87
          replace hb87 : (getEH (bends (putH h) (ls.take (min ls.length 20)))) = 0 := by omega
          refine g_yes hE rfl rfl ?_
          refine s_loadN hE rfl (hM.get 0 rfl) row39 rfl (by intro X h; cases h) rfl ?_; clear hE a; intro a hE
          replace hE := hE.cast 88 rfl (show _ = Value.agg ([[.int .i64 ((getHH (bends (putH h) (ls.take (min ls.length 20)))).m)], [.int .i64 ((getHH (bends (putH h) (ls.take (min ls.length 20)))).r)], [.bool ((getHH (bends (putH h) (ls.take (min ls.length 20)))).v0.1)], [.int .u64 (((getHH (bends (putH h) (ls.take (min ls.length 20)))).v0.2.1 : Nat) : Int)], bv ((getHH (bends (putH h) (ls.take (min ls.length 20)))).v0.2.2.1), bv ((getHH (bends (putH h) (ls.take (min ls.length 20)))).v0.2.2.2), [.bool ((getHH (bends (putH h) (ls.take (min ls.length 20)))).v1.1)], [.int .u64 (((getHH (bends (putH h) (ls.take (min ls.length 20)))).v1.2.1 : Nat) : Int)], bv ((getHH (bends (putH h) (ls.take (min ls.length 20)))).v1.2.2.1), bv ((getHH (bends (putH h) (ls.take (min ls.length 20)))).v1.2.2.2), [.bool ((getHH (bends (putH h) (ls.take (min ls.length 20)))).s0.1)], [.int .i64 ((getHH (bends (putH h) (ls.take (min ls.length 20)))).s0.2.1)], bv ((getHH (bends (putH h) (ls.take (min ls.length 20)))).s0.2.2.1), bv ((getHH (bends (putH h) (ls.take (min ls.length 20)))).s0.2.2.2.1), bv ((getHH (bends (putH h) (ls.take (min ls.length 20)))).s0.2.2.2.2), [.bool ((getHH (bends (putH h) (ls.take (min ls.length 20)))).s1.1)], [.int .i64 ((getHH (bends (putH h) (ls.take (min ls.length 20)))).s1.2.1)], bv ((getHH (bends (putH h) (ls.take (min ls.length 20)))).s1.2.2.1), bv ((getHH (bends (putH h) (ls.take (min ls.length 20)))).s1.2.2.2.1), bv ((getHH (bends (putH h) (ls.take (min ls.length 20)))).s1.2.2.2.2), [.bool ((getHH (bends (putH h) (ls.take (min ls.length 20)))).s2.1)], [.int .i64 ((getHH (bends (putH h) (ls.take (min ls.length 20)))).s2.2.1)], bv ((getHH (bends (putH h) (ls.take (min ls.length 20)))).s2.2.2.1), bv ((getHH (bends (putH h) (ls.take (min ls.length 20)))).s2.2.2.2.1), bv ((getHH (bends (putH h) (ls.take (min ls.length 20)))).s2.2.2.2.2), [.bool ((getHH (bends (putH h) (ls.take (min ls.length 20)))).s3.1)], [.int .i64 ((getHH (bends (putH h) (ls.take (min ls.length 20)))).s3.2.1)], bv ((getHH (bends (putH h) (ls.take (min ls.length 20)))).s3.2.2.1), bv ((getHH (bends (putH h) (ls.take (min ls.length 20)))).s3.2.2.2.1), bv ((getHH (bends (putH h) (ls.take (min ls.length 20)))).s3.2.2.2.2)] : List (List Value)).flatten.toArray from (by first | rfl | simp only [List.flatten_cons, List.flatten_nil, List.append_nil, List.append_assoc]))
          refine g_yes hE rfl rfl ?_
          refine s_loadN hE rfl (hM.get 3 rfl) row39 rfl (by intro X h; cases h) rfl ?_; clear hE a; intro a hE
          replace hE := hE.cast 89 rfl (show _ = Value.agg ([[.int .i64 h.m], [.int .i64 h.r], [.bool h.v0.1], [.int .u64 ((h.v0.2.1 : Nat) : Int)], bv h.v0.2.2.1, bv h.v0.2.2.2, [.bool h.v1.1], [.int .u64 ((h.v1.2.1 : Nat) : Int)], bv h.v1.2.2.1, bv h.v1.2.2.2, [.bool h.s0.1], [.int .i64 h.s0.2.1], bv h.s0.2.2.1, bv h.s0.2.2.2.1, bv h.s0.2.2.2.2, [.bool h.s1.1], [.int .i64 h.s1.2.1], bv h.s1.2.2.1, bv h.s1.2.2.2.1, bv h.s1.2.2.2.2, [.bool h.s2.1], [.int .i64 h.s2.2.1], bv h.s2.2.2.1, bv h.s2.2.2.2.1, bv h.s2.2.2.2.2, [.bool h.s3.1], [.int .i64 h.s3.2.1], bv h.s3.2.2.1, bv h.s3.2.2.2.1, bv h.s3.2.2.2.2] : List (List Value)).flatten.toArray from (by first | rfl | simp only [List.flatten_cons, List.flatten_nil, List.append_nil, List.append_assoc]))
          refine g_yes hE rfl rfl ?_
          refine s_bin hE rfl rfl ((eqk39 (b := decide ((((getHH (bends (putH h) (ls.take (min ls.length 20)))).m) : Int) = h.m ∧ (((getHH (bends (putH h) (ls.take (min ls.length 20)))).r) : Int) = h.r ∧ ((getHH (bends (putH h) (ls.take (min ls.length 20)))).v0.1) = h.v0.1 ∧ ((((getHH (bends (putH h) (ls.take (min ls.length 20)))).v0.2.1 : Nat) : Int) : Int) = ((h.v0.2.1 : Nat) : Int) ∧ ((getHH (bends (putH h) (ls.take (min ls.length 20)))).v0.2.2.1) = h.v0.2.2.1 ∧ ((getHH (bends (putH h) (ls.take (min ls.length 20)))).v0.2.2.2) = h.v0.2.2.2 ∧ ((getHH (bends (putH h) (ls.take (min ls.length 20)))).v1.1) = h.v1.1 ∧ ((((getHH (bends (putH h) (ls.take (min ls.length 20)))).v1.2.1 : Nat) : Int) : Int) = ((h.v1.2.1 : Nat) : Int) ∧ ((getHH (bends (putH h) (ls.take (min ls.length 20)))).v1.2.2.1) = h.v1.2.2.1 ∧ ((getHH (bends (putH h) (ls.take (min ls.length 20)))).v1.2.2.2) = h.v1.2.2.2 ∧ ((getHH (bends (putH h) (ls.take (min ls.length 20)))).s0.1) = h.s0.1 ∧ (((getHH (bends (putH h) (ls.take (min ls.length 20)))).s0.2.1) : Int) = h.s0.2.1 ∧ ((getHH (bends (putH h) (ls.take (min ls.length 20)))).s0.2.2.1) = h.s0.2.2.1 ∧ ((getHH (bends (putH h) (ls.take (min ls.length 20)))).s0.2.2.2.1) = h.s0.2.2.2.1 ∧ ((getHH (bends (putH h) (ls.take (min ls.length 20)))).s0.2.2.2.2) = h.s0.2.2.2.2 ∧ ((getHH (bends (putH h) (ls.take (min ls.length 20)))).s1.1) = h.s1.1 ∧ (((getHH (bends (putH h) (ls.take (min ls.length 20)))).s1.2.1) : Int) = h.s1.2.1 ∧ ((getHH (bends (putH h) (ls.take (min ls.length 20)))).s1.2.2.1) = h.s1.2.2.1 ∧ ((getHH (bends (putH h) (ls.take (min ls.length 20)))).s1.2.2.2.1) = h.s1.2.2.2.1 ∧ ((getHH (bends (putH h) (ls.take (min ls.length 20)))).s1.2.2.2.2) = h.s1.2.2.2.2 ∧ ((getHH (bends (putH h) (ls.take (min ls.length 20)))).s2.1) = h.s2.1 ∧ (((getHH (bends (putH h) (ls.take (min ls.length 20)))).s2.2.1) : Int) = h.s2.2.1 ∧ ((getHH (bends (putH h) (ls.take (min ls.length 20)))).s2.2.2.1) = h.s2.2.2.1 ∧ ((getHH (bends (putH h) (ls.take (min ls.length 20)))).s2.2.2.2.1) = h.s2.2.2.2.1 ∧ ((getHH (bends (putH h) (ls.take (min ls.length 20)))).s2.2.2.2.2) = h.s2.2.2.2.2 ∧ ((getHH (bends (putH h) (ls.take (min ls.length 20)))).s3.1) = h.s3.1 ∧ (((getHH (bends (putH h) (ls.take (min ls.length 20)))).s3.2.1) : Int) = h.s3.2.1 ∧ ((getHH (bends (putH h) (ls.take (min ls.length 20)))).s3.2.2.1) = h.s3.2.2.1 ∧ ((getHH (bends (putH h) (ls.take (min ls.length 20)))).s3.2.2.2.1) = h.s3.2.2.2.1 ∧ ((getHH (bends (putH h) (ls.take (min ls.length 20)))).s3.2.2.2.2) = h.s3.2.2.2.2)) (klL39 (k := 0) (x0 := ((getHH (bends (putH h) (ls.take (min ls.length 20)))).m)) (x1 := ((getHH (bends (putH h) (ls.take (min ls.length 20)))).r)) (x2 := (getHH (bends (putH h) (ls.take (min ls.length 20)))).v0.1) (x3 := (((getHH (bends (putH h) (ls.take (min ls.length 20)))).v0.2.1 : Nat) : Int)) (x4 := (getHH (bends (putH h) (ls.take (min ls.length 20)))).v0.2.2.1) (x5 := (getHH (bends (putH h) (ls.take (min ls.length 20)))).v0.2.2.2) (x6 := (getHH (bends (putH h) (ls.take (min ls.length 20)))).v1.1) (x7 := (((getHH (bends (putH h) (ls.take (min ls.length 20)))).v1.2.1 : Nat) : Int)) (x8 := (getHH (bends (putH h) (ls.take (min ls.length 20)))).v1.2.2.1) (x9 := (getHH (bends (putH h) (ls.take (min ls.length 20)))).v1.2.2.2) (x10 := (getHH (bends (putH h) (ls.take (min ls.length 20)))).s0.1) (x11 := ((getHH (bends (putH h) (ls.take (min ls.length 20)))).s0.2.1)) (x12 := (getHH (bends (putH h) (ls.take (min ls.length 20)))).s0.2.2.1) (x13 := (getHH (bends (putH h) (ls.take (min ls.length 20)))).s0.2.2.2.1) (x14 := (getHH (bends (putH h) (ls.take (min ls.length 20)))).s0.2.2.2.2) (x15 := (getHH (bends (putH h) (ls.take (min ls.length 20)))).s1.1) (x16 := ((getHH (bends (putH h) (ls.take (min ls.length 20)))).s1.2.1)) (x17 := (getHH (bends (putH h) (ls.take (min ls.length 20)))).s1.2.2.1) (x18 := (getHH (bends (putH h) (ls.take (min ls.length 20)))).s1.2.2.2.1) (x19 := (getHH (bends (putH h) (ls.take (min ls.length 20)))).s1.2.2.2.2) (x20 := (getHH (bends (putH h) (ls.take (min ls.length 20)))).s2.1) (x21 := ((getHH (bends (putH h) (ls.take (min ls.length 20)))).s2.2.1)) (x22 := (getHH (bends (putH h) (ls.take (min ls.length 20)))).s2.2.2.1) (x23 := (getHH (bends (putH h) (ls.take (min ls.length 20)))).s2.2.2.2.1) (x24 := (getHH (bends (putH h) (ls.take (min ls.length 20)))).s2.2.2.2.2) (x25 := (getHH (bends (putH h) (ls.take (min ls.length 20)))).s3.1) (x26 := ((getHH (bends (putH h) (ls.take (min ls.length 20)))).s3.2.1)) (x27 := (getHH (bends (putH h) (ls.take (min ls.length 20)))).s3.2.2.1) (x28 := (getHH (bends (putH h) (ls.take (min ls.length 20)))).s3.2.2.2.1) (x29 := (getHH (bends (putH h) (ls.take (min ls.length 20)))).s3.2.2.2.2) (wf_i64 (getHH_ok ((bends_ok (l := ls.take (min ls.length 20)) ⟨hp8, putH_ok hk⟩).2)).m) (wf_i64 (getHH_ok ((bends_ok (l := ls.take (min ls.length 20)) ⟨hp8, putH_ok hk⟩).2)).r) (wf_u64 (getHH_ok ((bends_ok (l := ls.take (min ls.length 20)) ⟨hp8, putH_ok hk⟩).2)).v0.1) (getHH_ok ((bends_ok (l := ls.take (min ls.length 20)) ⟨hp8, putH_ok hk⟩).2)).v0.2.1 (getHH_ok ((bends_ok (l := ls.take (min ls.length 20)) ⟨hp8, putH_ok hk⟩).2)).v0.2.2 (wf_u64 (getHH_ok ((bends_ok (l := ls.take (min ls.length 20)) ⟨hp8, putH_ok hk⟩).2)).v1.1) (getHH_ok ((bends_ok (l := ls.take (min ls.length 20)) ⟨hp8, putH_ok hk⟩).2)).v1.2.1 (getHH_ok ((bends_ok (l := ls.take (min ls.length 20)) ⟨hp8, putH_ok hk⟩).2)).v1.2.2 (wf_i64 (getHH_ok ((bends_ok (l := ls.take (min ls.length 20)) ⟨hp8, putH_ok hk⟩).2)).s0.1) (getHH_ok ((bends_ok (l := ls.take (min ls.length 20)) ⟨hp8, putH_ok hk⟩).2)).s0.2.1 (getHH_ok ((bends_ok (l := ls.take (min ls.length 20)) ⟨hp8, putH_ok hk⟩).2)).s0.2.2.1 (getHH_ok ((bends_ok (l := ls.take (min ls.length 20)) ⟨hp8, putH_ok hk⟩).2)).s0.2.2.2 (wf_i64 (getHH_ok ((bends_ok (l := ls.take (min ls.length 20)) ⟨hp8, putH_ok hk⟩).2)).s1.1) (getHH_ok ((bends_ok (l := ls.take (min ls.length 20)) ⟨hp8, putH_ok hk⟩).2)).s1.2.1 (getHH_ok ((bends_ok (l := ls.take (min ls.length 20)) ⟨hp8, putH_ok hk⟩).2)).s1.2.2.1 (getHH_ok ((bends_ok (l := ls.take (min ls.length 20)) ⟨hp8, putH_ok hk⟩).2)).s1.2.2.2 (wf_i64 (getHH_ok ((bends_ok (l := ls.take (min ls.length 20)) ⟨hp8, putH_ok hk⟩).2)).s2.1) (getHH_ok ((bends_ok (l := ls.take (min ls.length 20)) ⟨hp8, putH_ok hk⟩).2)).s2.2.1 (getHH_ok ((bends_ok (l := ls.take (min ls.length 20)) ⟨hp8, putH_ok hk⟩).2)).s2.2.2.1 (getHH_ok ((bends_ok (l := ls.take (min ls.length 20)) ⟨hp8, putH_ok hk⟩).2)).s2.2.2.2 (wf_i64 (getHH_ok ((bends_ok (l := ls.take (min ls.length 20)) ⟨hp8, putH_ok hk⟩).2)).s3.1) (getHH_ok ((bends_ok (l := ls.take (min ls.length 20)) ⟨hp8, putH_ok hk⟩).2)).s3.2.1 (getHH_ok ((bends_ok (l := ls.take (min ls.length 20)) ⟨hp8, putH_ok hk⟩).2)).s3.2.2.1 (getHH_ok ((bends_ok (l := ls.take (min ls.length 20)) ⟨hp8, putH_ok hk⟩).2)).s3.2.2.2) (klL39 (k := 0) (x0 := h.m) (x1 := h.r) (x2 := h.v0.1) (x3 := ((h.v0.2.1 : Nat) : Int)) (x4 := h.v0.2.2.1) (x5 := h.v0.2.2.2) (x6 := h.v1.1) (x7 := ((h.v1.2.1 : Nat) : Int)) (x8 := h.v1.2.2.1) (x9 := h.v1.2.2.2) (x10 := h.s0.1) (x11 := h.s0.2.1) (x12 := h.s0.2.2.1) (x13 := h.s0.2.2.2.1) (x14 := h.s0.2.2.2.2) (x15 := h.s1.1) (x16 := h.s1.2.1) (x17 := h.s1.2.2.1) (x18 := h.s1.2.2.2.1) (x19 := h.s1.2.2.2.2) (x20 := h.s2.1) (x21 := h.s2.2.1) (x22 := h.s2.2.2.1) (x23 := h.s2.2.2.2.1) (x24 := h.s2.2.2.2.2) (x25 := h.s3.1) (x26 := h.s3.2.1) (x27 := h.s3.2.2.1) (x28 := h.s3.2.2.2.1) (x29 := h.s3.2.2.2.2) (wf_i64 hk.m) (wf_i64 hk.r) (wf_u64 hk.v0.1) hk.v0.2.1 hk.v0.2.2 (wf_u64 hk.v1.1) hk.v1.2.1 hk.v1.2.2 (wf_i64 hk.s0.1) hk.s0.2.1 hk.s0.2.2.1 hk.s0.2.2.2 (wf_i64 hk.s1.1) hk.s1.2.1 hk.s1.2.2.1 hk.s1.2.2.2 (wf_i64 hk.s2.1) hk.s2.2.1 hk.s2.2.2.1 hk.s2.2.2.2 (wf_i64 hk.s3.1) hk.s3.2.1 hk.s3.2.2.1 hk.s3.2.2.2) (by rw [flat_eq (by have hl_x4 : ((getHH (bends (putH h) (ls.take (min ls.length 20)))).v0.2.2.1).length = 32 := (getHH_ok ((bends_ok (l := ls.take (min ls.length 20)) ⟨hp8, putH_ok hk⟩).2)).v0.2.1; have hl_x5 : ((getHH (bends (putH h) (ls.take (min ls.length 20)))).v0.2.2.2).length = 32 := (getHH_ok ((bends_ok (l := ls.take (min ls.length 20)) ⟨hp8, putH_ok hk⟩).2)).v0.2.2; have hl_x8 : ((getHH (bends (putH h) (ls.take (min ls.length 20)))).v1.2.2.1).length = 32 := (getHH_ok ((bends_ok (l := ls.take (min ls.length 20)) ⟨hp8, putH_ok hk⟩).2)).v1.2.1; have hl_x9 : ((getHH (bends (putH h) (ls.take (min ls.length 20)))).v1.2.2.2).length = 32 := (getHH_ok ((bends_ok (l := ls.take (min ls.length 20)) ⟨hp8, putH_ok hk⟩).2)).v1.2.2; have hl_x12 : ((getHH (bends (putH h) (ls.take (min ls.length 20)))).s0.2.2.1).length = 16 := (getHH_ok ((bends_ok (l := ls.take (min ls.length 20)) ⟨hp8, putH_ok hk⟩).2)).s0.2.1; have hl_x13 : ((getHH (bends (putH h) (ls.take (min ls.length 20)))).s0.2.2.2.1).length = 32 := (getHH_ok ((bends_ok (l := ls.take (min ls.length 20)) ⟨hp8, putH_ok hk⟩).2)).s0.2.2.1; have hl_x14 : ((getHH (bends (putH h) (ls.take (min ls.length 20)))).s0.2.2.2.2).length = 32 := (getHH_ok ((bends_ok (l := ls.take (min ls.length 20)) ⟨hp8, putH_ok hk⟩).2)).s0.2.2.2; have hl_x17 : ((getHH (bends (putH h) (ls.take (min ls.length 20)))).s1.2.2.1).length = 16 := (getHH_ok ((bends_ok (l := ls.take (min ls.length 20)) ⟨hp8, putH_ok hk⟩).2)).s1.2.1; have hl_x18 : ((getHH (bends (putH h) (ls.take (min ls.length 20)))).s1.2.2.2.1).length = 32 := (getHH_ok ((bends_ok (l := ls.take (min ls.length 20)) ⟨hp8, putH_ok hk⟩).2)).s1.2.2.1; have hl_x19 : ((getHH (bends (putH h) (ls.take (min ls.length 20)))).s1.2.2.2.2).length = 32 := (getHH_ok ((bends_ok (l := ls.take (min ls.length 20)) ⟨hp8, putH_ok hk⟩).2)).s1.2.2.2; have hl_x22 : ((getHH (bends (putH h) (ls.take (min ls.length 20)))).s2.2.2.1).length = 16 := (getHH_ok ((bends_ok (l := ls.take (min ls.length 20)) ⟨hp8, putH_ok hk⟩).2)).s2.2.1; have hl_x23 : ((getHH (bends (putH h) (ls.take (min ls.length 20)))).s2.2.2.2.1).length = 32 := (getHH_ok ((bends_ok (l := ls.take (min ls.length 20)) ⟨hp8, putH_ok hk⟩).2)).s2.2.2.1; have hl_x24 : ((getHH (bends (putH h) (ls.take (min ls.length 20)))).s2.2.2.2.2).length = 32 := (getHH_ok ((bends_ok (l := ls.take (min ls.length 20)) ⟨hp8, putH_ok hk⟩).2)).s2.2.2.2; have hl_x27 : ((getHH (bends (putH h) (ls.take (min ls.length 20)))).s3.2.2.1).length = 16 := (getHH_ok ((bends_ok (l := ls.take (min ls.length 20)) ⟨hp8, putH_ok hk⟩).2)).s3.2.1; have hl_x28 : ((getHH (bends (putH h) (ls.take (min ls.length 20)))).s3.2.2.2.1).length = 32 := (getHH_ok ((bends_ok (l := ls.take (min ls.length 20)) ⟨hp8, putH_ok hk⟩).2)).s3.2.2.1; have hl_x29 : ((getHH (bends (putH h) (ls.take (min ls.length 20)))).s3.2.2.2.2).length = 32 := (getHH_ok ((bends_ok (l := ls.take (min ls.length 20)) ⟨hp8, putH_ok hk⟩).2)).s3.2.2.2; have hl_y4 : h.v0.2.2.1.length = 32 := hk.v0.2.1; have hl_y5 : h.v0.2.2.2.length = 32 := hk.v0.2.2; have hl_y8 : h.v1.2.2.1.length = 32 := hk.v1.2.1; have hl_y9 : h.v1.2.2.2.length = 32 := hk.v1.2.2; have hl_y12 : h.s0.2.2.1.length = 16 := hk.s0.2.1; have hl_y13 : h.s0.2.2.2.1.length = 32 := hk.s0.2.2.1; have hl_y14 : h.s0.2.2.2.2.length = 32 := hk.s0.2.2.2; have hl_y17 : h.s1.2.2.1.length = 16 := hk.s1.2.1; have hl_y18 : h.s1.2.2.2.1.length = 32 := hk.s1.2.2.1; have hl_y19 : h.s1.2.2.2.2.length = 32 := hk.s1.2.2.2; have hl_y22 : h.s2.2.2.1.length = 16 := hk.s2.2.1; have hl_y23 : h.s2.2.2.2.1.length = 32 := hk.s2.2.2.1; have hl_y24 : h.s2.2.2.2.2.length = 32 := hk.s2.2.2.2; have hl_y27 : h.s3.2.2.1.length = 16 := hk.s3.2.1; have hl_y28 : h.s3.2.2.2.1.length = 32 := hk.s3.2.2.1; have hl_y29 : h.s3.2.2.2.2.length = 32 := hk.s3.2.2.2; simp only [List.map_cons, List.map_nil, bv_length, List.length_cons, List.length_nil, hl_x4, hl_x5, hl_x8, hl_x9, hl_x12, hl_x13, hl_x14, hl_x17, hl_x18, hl_x19, hl_x22, hl_x23, hl_x24, hl_x27, hl_x28, hl_x29, hl_y4, hl_y5, hl_y8, hl_y9, hl_y12, hl_y13, hl_y14, hl_y17, hl_y18, hl_y19, hl_y22, hl_y23, hl_y24, hl_y27, hl_y28, hl_y29])]; simp [bv_iff, Int.ofNat_inj]; try omega)).1) rfl ?_; clear hE a; intro a hE
          refine s_pickt hE rfl rfl rfl ?_; clear hE a; intro a hE
          refine s_move hE rfl rfl ?_; clear hE a; intro a hE
          refine s_bin hE rfl rfl (bins_bool Try.underlying4).1 rfl ?_; clear hE a; intro a hE
          refine s_move hE rfl rfl ?_; clear hE a; intro a hE
          replace hE := hE.cast 94 rfl (show _ = Value.bool true from (congrArg Value.bool (by have he := takeEq_end hp8 ((bends_ok (l := ls.take (min ls.length 20)) ⟨hp8, putH_ok hk⟩)).1; first | (show (_ == _) = true; rw [he, beq_iff_eq]; exact decide_eq_decide.2 ((hd_leaves _ _).trans ⟨fun e => (bend_same hk hc0 ((bends_ok (l := ls.take (min ls.length 20)) ⟨hp8, putH_ok hk⟩)).2).1 ⟨hb87, e⟩, fun e => ((bend_same hk hc0 ((bends_ok (l := ls.take (min ls.length 20)) ⟨hp8, putH_ok hk⟩)).2).2 e).2⟩)) | (show (_ == _) = true; rw [he, beq_iff_eq]; exact (decide_eq_false (fun e => hb87 ((bend_same hk hc0 ((bends_ok (l := ls.take (min ls.length 20)) ⟨hp8, putH_ok hk⟩)).2).2 e).1)).symm))))
          refine g_yes hE rfl rfl ?_
          refine s_call hE rfl Try.call13 (works24_c  _ ) rfl ?_
          rintro e w10 ⟨rfl, hN⟩
          refine ⟨_, rfl, trivial, ?_⟩; clear hE a; intro a hE
          replace hM : Mem _ _ w10 [_, _, _, _, _] := hM.call0 hN trivial; clear hN
          refine s_pickt hE rfl rfl rfl ?_; clear hE a; intro a hE
          refine s_assign hE rfl rfl ?_; clear hE a; intro a hE
          refine q_nil ?_
          replace hE : Env a 97 [(1, _), (2, _), (4, _), (5, _), (7, _), (8, _), (10, _), (11, _), (12, _), (20, _), (24, _), (35, _), (65, _)] := hE.sel [1, 2, 4, 5, 7, 8, 10, 11, 12, 20, 24, 35, 65] rfl
          refine hK18 _ _ ?_
          refine wp_ret ?_
          refine f_ret1 hE rfl rfl ?_
          exact ⟨(by first | rfl | (simp; done)), hM.pick [] rfl⟩
        · replace hE := hE'; clear hE'
          replace hb87 := of_decide_eq_false hb87
          replace hb87 : ¬ ((getEH (bends (putH h) (ls.take (min ls.length 20)))) = 0) := by omega
          refine g_no (b := false) hE rfl rfl rfl ?_; clear hE a; intro a hE
          refine g_no (b := false) hE rfl rfl rfl ?_; clear hE a; intro a hE
          refine g_no (b := false) hE rfl rfl rfl ?_; clear hE a; intro a hE
          refine s_pickf hE rfl rfl rfl ?_; clear hE a; intro a hE
          refine s_move hE rfl rfl ?_; clear hE a; intro a hE
          refine s_bin hE rfl rfl (bins_bool Try.underlying4).1 rfl ?_; clear hE a; intro a hE
          refine s_move hE rfl rfl ?_; clear hE a; intro a hE
          replace hE := hE.cast 94 rfl (show _ = Value.bool true from (congrArg Value.bool (by have he := takeEq_end hp8 ((bends_ok (l := ls.take (min ls.length 20)) ⟨hp8, putH_ok hk⟩)).1; first | (show (_ == _) = true; rw [he, beq_iff_eq]; exact decide_eq_decide.2 ((hd_leaves _ _).trans ⟨fun e => (bend_same hk hc0 ((bends_ok (l := ls.take (min ls.length 20)) ⟨hp8, putH_ok hk⟩)).2).1 ⟨hb87, e⟩, fun e => ((bend_same hk hc0 ((bends_ok (l := ls.take (min ls.length 20)) ⟨hp8, putH_ok hk⟩)).2).2 e).2⟩)) | (show (_ == _) = true; rw [he, beq_iff_eq]; exact (decide_eq_false (fun e => hb87 ((bend_same hk hc0 ((bends_ok (l := ls.take (min ls.length 20)) ⟨hp8, putH_ok hk⟩)).2).2 e).1)).symm))))
          refine g_yes hE rfl rfl ?_
          refine s_call hE rfl Try.call13 (works24_c  _ ) rfl ?_
          rintro e w10 ⟨rfl, hN⟩
          refine ⟨_, rfl, trivial, ?_⟩; clear hE a; intro a hE
          replace hM : Mem _ _ w10 [_, _, _, _, _] := hM.call0 hN trivial; clear hN
          refine s_pickt hE rfl rfl rfl ?_; clear hE a; intro a hE
          refine s_assign hE rfl rfl ?_; clear hE a; intro a hE
          refine q_nil ?_
          replace hE : Env a 97 [(1, _), (2, _), (4, _), (5, _), (7, _), (8, _), (10, _), (11, _), (12, _), (20, _), (24, _), (35, _), (65, _)] := hE.sel [1, 2, 4, 5, 7, 8, 10, 11, 12, 20, 24, 35, 65] rfl
          refine hK18 _ _ ?_
          refine wp_ret ?_
          refine f_ret1 hE rfl rfl ?_
          exact ⟨(by first | rfl | (simp; done)), hM.pick [] rfl⟩
set_option maxRecDepth 100000 in
theorem headerBends_lifted (os : Os) (started : os.Started) (H : Type) (enc : TypeId × Value → H) :
    ReturnsInHanded {} Try.checked os 7 .any (Rows.headerBendsSpec.pre6 enc Try.prog Try.f7 Rows.headerBendsRow.domain false) (Rows.headerBendsSpec.post enc Try.prog Try.f7 false true false false) := by
  refine law_lifted (C := Try.checked) (fn := Try.f7) (by kernel_rfl) started (by kernel_rfl) Try.func7 rfl (fun ds hl => ?_) rfl Try.underlying4 (by kernel_rfl) (of_decide_eq_true (by kernel_rfl)) (ChangeSpec.witness6 (enc := enc) (C := Try.checked) false ⟨#[], #[.agg ([[.int .i64 0], [.int .i64 0]] ++ [[.bool false], [.int .u64 0], bv (List.replicate 64 0)] ++ [[.bool false], [.int .u64 0], bv (List.replicate 64 0)] ++ (List.replicate 4 [[.bool false], [.int .i64 0], bv (List.replicate 80 0)]).flatten : List (List Value)).flatten.toArray, .slice none 0 0], []⟩ 8 (by kernel_rfl) (by kernel_rfl) (by kernel_rfl) (by kernel_rfl)) ?_
  · rw [Try.params7] at hl
    match ds, hl with
    | [_, _], _ => rfl
  · intro W base args ds ps hval hA hw
    rw [Try.params7] at hA hval hw
    obtain ⟨v0, vs0, d0, ds0, p0, q0, hargs, rfl, rfl, h0, r0⟩ := trodAll_cons hA
    obtain ⟨v1, vs1, d1, ds1, p1, q1, rfl, rfl, rfl, h1, r1⟩ := trodAll_cons r0
    obtain ⟨rfl, rfl, rfl⟩ := trodAll_nil r1
    obtain rfl : args = #[v0, v1] := by cases args; simp_all
    obtain ⟨hd0, rfl, hk0⟩ := arg_hd (⟨39, 23, 32, 31, 37, 36, 29, 26, 27, 34, 3, 4, 24, 5, _, _, _, _, _, Try.underlying39, Try.underlying23, Try.underlying32, Try.underlying31, Try.underlying37, Try.underlying36, Try.underlying29, Try.underlying26, Try.underlying27, Try.underlying34, Try.underlying3, Try.underlying4, Try.underlying24, Try.underlying5, by kernel_rfl, by kernel_rfl, by kernel_rfl, by kernel_rfl, by kernel_rfl, by kernel_rfl, by kernel_rfl, by kernel_rfl, by kernel_rfl, by kernel_rfl, by kernel_rfl, by kernel_rfl, by kernel_rfl, by kernel_rfl, by kernel_rfl, by kernel_rfl⟩ : HdT Try.prog) (hval 0 39 v0 rfl rfl) h0 (fun m hm => hw m (by simp only [DataW.weightsEach, List.mem_append]; exact .inl hm))
    rw [hd_cells hd0]
    obtain ⟨ls1, k1, hr1, ho1, hn1⟩ := arg_rowsB (es := 2) (by_ := 4) Try.underlying62 (by kernel_rfl) (by kernel_rfl) (by decide) (by decide) (dec_pair Try.underlying64 Try.underlying63 (by kernel_rfl) (by kernel_rfl)) (hval 1 62 v1 rfl rfl) h1 (fun m hm => hw m (by simp only [DataW.weightsEach, List.mem_append]; exact .inr (.inl hm)))
    exact headerBends_c hd0 v1 ls1 k1 W hr1 ho1 hk0

/-- The statement. -/
theorem headerBends_holds : Rows.HeaderBendsSaid :=
  OpenClaim.holds_of_wide 7 Try.f7 rfl rfl rfl rfl rfl rfl rfl ⟨rfl, rfl, rfl, rfl, rfl⟩ rfl rfl rfl rfl rfl (by kernel_rfl) Try.func7 (by kernel_rfl)
    (of_decide_eq_true (by kernel_rfl)) (by unfold Func.isWrapper; first | (rw [if_pos (by decide +kernel)]; kernel_rfl) | (rw [if_neg (by decide +kernel)]; exact ⟨rfl, rfl⟩))
    (fun os started H enc _ => headerBends_lifted os started H enc)
#print axioms headerBends_holds
end Go.Proofs.Ytamjaacddbecaaa
