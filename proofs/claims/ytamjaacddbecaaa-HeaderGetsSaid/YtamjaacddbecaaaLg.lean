/- Walks of functions of the given program that the claim reaches. -/
import Derived.Test.YtamjaacddbecaaaLf
set_option linter.unusedSimpArgs false
set_option linter.unusedVariables false
namespace Go.Proofs.Ytamjaacddbecaaa
open Go Go.Kx
theorem sz5 : (Try.prog.info? 5).map (·.size) = some 1 := by kernel_rfl
theorem row26 : RowT Try.prog 26 32 := RowT.of Try.underlying26 rfl (by kernel_rfl)
theorem row27 : RowT Try.prog 27 32 := RowT.of Try.underlying27 rfl (by kernel_rfl)
theorem eqa59 : ∀ {a b : List UInt8}, a.length = 64 → b.length = 64 → Bin Try.prog .eql 59 (.agg (bv a).toArray) (.agg (bv b).toArray) (.bool (decide (a = b))) ∧ Bin Try.prog .neq 59 (.agg (bv a).toArray) (.agg (bv b).toArray) (.bool (!decide (a = b))) := fun ha hb => bins_arr8 Try.underlying59 (by kernel_rfl) Try.underlying5 (by kernel_rfl) (by kernel_rfl) ha hb
set_option maxHeartbeats 2000000 in
theorem rshaped_c (h : Hd) (w : World) (hk : OkHd h) : Calls Try.prog 25 #[.agg ([[.int .i64 h.m], [.int .i64 h.r], [.bool h.v0.1], [.int .u64 ((h.v0.2.1 : Nat) : Int)], bv h.v0.2.2.1, bv h.v0.2.2.2, [.bool h.v1.1], [.int .u64 ((h.v1.2.1 : Nat) : Int)], bv h.v1.2.2.1, bv h.v1.2.2.2, [.bool h.s0.1], [.int .i64 h.s0.2.1], bv h.s0.2.2.1, bv h.s0.2.2.2.1, bv h.s0.2.2.2.2, [.bool h.s1.1], [.int .i64 h.s1.2.1], bv h.s1.2.2.1, bv h.s1.2.2.2.1, bv h.s1.2.2.2.2, [.bool h.s2.1], [.int .i64 h.s2.2.1], bv h.s2.2.2.1, bv h.s2.2.2.2.1, bv h.s2.2.2.2.2, [.bool h.s3.1], [.int .i64 h.s3.2.1], bv h.s3.2.2.1, bv h.s3.2.2.2.1, bv h.s3.2.2.2.2] : List (List Value)).flatten.toArray] w fun e w' => e = .returned (.bool (shapedB h)) ∧ Mem w [] w' [] := by
  have hi0 := hk.s0.1
  have hi1 := hk.s1.1
  have hi2 := hk.s2.1
  have hi3 := hk.s3.1
  have hn0 := hk.v0.1
  have hn1 := hk.v1.1
  have hM := Mem.start0 w
  refine f_enter 57 Try.func25 rfl rfl rfl ?_
  intro a hE
  replace hE : Env a 57 [(0, _)] := hE
  refine wp_seq_k (fun K1 hK1 => ?_)
  refine wp_plain [false, true] rfl rfl ?_
  have hbl1_4 : h.v0.2.2.1.length = 32 := hk.v0.2.1
  have hbl1_5 : h.v0.2.2.2.length = 32 := hk.v0.2.2
  have hbl1_8 : h.v1.2.2.1.length = 32 := hk.v1.2.1
  have hbl1_9 : h.v1.2.2.2.length = 32 := hk.v1.2.2
  have hbl1_12 : h.s0.2.2.1.length = 16 := hk.s0.2.1
  have hbl1_13 : h.s0.2.2.2.1.length = 32 := hk.s0.2.2.1
  have hbl1_14 : h.s0.2.2.2.2.length = 32 := hk.s0.2.2.2
  have hbl1_17 : h.s1.2.2.1.length = 16 := hk.s1.2.1
  have hbl1_18 : h.s1.2.2.2.1.length = 32 := hk.s1.2.2.1
  have hbl1_19 : h.s1.2.2.2.2.length = 32 := hk.s1.2.2.2
  have hbl1_22 : h.s2.2.2.1.length = 16 := hk.s2.2.1
  have hbl1_23 : h.s2.2.2.2.1.length = 32 := hk.s2.2.2.1
  have hbl1_24 : h.s2.2.2.2.2.length = 32 := hk.s2.2.2.2
  have hbl1_27 : h.s3.2.2.1.length = 16 := hk.s3.2.1
  have hbl1_28 : h.s3.2.2.2.1.length = 32 := hk.s3.2.2.1
  have hbl1_29 : h.s3.2.2.2.2.length = 32 := hk.s3.2.2.2
  refine s_box (ss := [[.int .i64 h.m], [.int .i64 h.r], [.bool h.v0.1], [.int .u64 ((h.v0.2.1 : Nat) : Int)], bv h.v0.2.2.1, bv h.v0.2.2.2, [.bool h.v1.1], [.int .u64 ((h.v1.2.1 : Nat) : Int)], bv h.v1.2.2.1, bv h.v1.2.2.2, [.bool h.s0.1], [.int .i64 h.s0.2.1], bv h.s0.2.2.1, bv h.s0.2.2.2.1, bv h.s0.2.2.2.2, [.bool h.s1.1], [.int .i64 h.s1.2.1], bv h.s1.2.2.1, bv h.s1.2.2.2.1, bv h.s1.2.2.2.2, [.bool h.s2.1], [.int .i64 h.s2.2.1], bv h.s2.2.2.1, bv h.s2.2.2.2.1, bv h.s2.2.2.2.2, [.bool h.s3.1], [.int .i64 h.s3.2.1], bv h.s3.2.2.1, bv h.s3.2.2.2.1, bv h.s3.2.2.2.2]) [1, 1, 1, 1, 32, 32, 1, 1, 32, 32, 1, 1, 16, 32, 32, 1, 1, 16, 32, 32, 1, 1, 16, 32, 32, 1, 1, 16, 32, 32] hE hM rfl rfl (by simp only [List.map_cons, List.map_nil, bv_length, List.length_cons, List.length_nil, List.length_replicate, hbl1_4, hbl1_5, hbl1_8, hbl1_9, hbl1_12, hbl1_13, hbl1_14, hbl1_17, hbl1_18, hbl1_19, hbl1_22, hbl1_23, hbl1_24, hbl1_27, hbl1_28, hbl1_29]) rfl ?_; clear hE a; intro a b1 w1 hE hM'
  clear hM; have hM := hM'; clear hM'
  refine s_assign hE rfl rfl ?_; clear hE a; intro a hE
  refine q_nil ?_
  replace hE : Env a 57 [(1, _), (2, _)] := hE.sel [1, 2] rfl
  refine hK1 _ _ ?_
  refine wp_seq_k (fun K2 hK2 => ?_)
  refine wp_seq_k (fun K3 hK3 => ?_)
  refine wp_plain [true, true, false, true] rfl rfl ?_
  refine s_fieldAddr hE rfl fo39_0 rfl ?_; clear hE a; intro a hE
  refine s_loadN hE rfl (hM.get 0 rfl) row23 rfl (by intro X h; cases h) rfl ?_; clear hE a; intro a hE
  replace hE := hE.cast 8 rfl (show _ = Value.agg ([[.int .i64 h.m], [.int .i64 h.r]] : List (List Value)).flatten.toArray from (by first | rfl | simp only [List.flatten_cons, List.flatten_nil, List.append_nil, List.append_assoc]))
  refine s_call hE rfl Try.call40 (rgeocheck_c h.m h.r _ ) rfl ?_
  rintro e w2 ⟨rfl, hN⟩
  refine ⟨_, rfl, trivial, ?_⟩; clear hE a; intro a hE
  replace hM : Mem _ _ w2 [_] := hM.call0 hN trivial; clear hN
  refine s_bin hE rfl rfl bin_neq rfl ?_; clear hE a; intro a hE
  refine q_nil ?_
  replace hE : Env a 57 [(1, _), (2, _), (10, _)] := hE.sel [1, 2, 10] rfl
  refine hK3 _ _ ?_
  refine hE.split 10 rfl (fun hb10 hE' => ?_) (fun hb10 hE' => ?_)
  · replace hE := hE'; clear hE'
    replace hb10 := of_decide_eq_false (not_true hb10)
    replace hb10 : ¬ ((if geoB h.m h.r then 0 else 2) = 0) := by omega
    refine wp_cond_true (hE.eval rfl) ?_
    refine wp_seq_k (fun K4 hK4 => ?_)
    refine wp_plain [true] rfl rfl ?_
    refine s_assign hE rfl rfl ?_; clear hE a; intro a hE
    refine q_nil ?_
    refine hK4 _ _ ?_
    refine wp_ret ?_
    refine q_then_r ?_
    refine f_ret1 hE rfl rfl ?_
    exact ⟨(by have hg : geoB h.m h.r = false := (by cases hgg : geoB h.m h.r <;> simp_all); simp [shapedB, hg]), hM.pick [] rfl⟩
  · replace hE := hE'; clear hE'
    replace hb10 := of_decide_eq_true (not_false' hb10)
    replace hb10 : (if geoB h.m h.r then 0 else 2) = 0 := by omega
    refine wp_cond_false (hE.eval rfl) ?_
    refine wp_skip ?_
    refine hK2 _ _ ?_
    refine wp_seq_k (fun K4 hK4 => ?_)
    refine wp_seq_k (fun K5 hK5 => ?_)
    refine wp_plain [true] rfl rfl ?_
    refine s_assign hE rfl rfl ?_; clear hE a; intro a hE
    refine q_nil ?_
    refine hK5 _ _ ?_
    refine wp_block ?_
    refine wp_loop_rounds 3 ?_
    refine c_roundsJ (fun a w' => volB h.v0 = true ∧ Env a 57 [(1, .pointer (some ⟨b1, 0, none⟩)), (2, .bool false), (3, .int .i64 1), (10, .bool false)] ∧ Mem w [] w' [blk b1 [[.int .i64 h.m], [.int .i64 h.r], [.bool h.v0.1], [.int .u64 ((h.v0.2.1 : Nat) : Int)], bv h.v0.2.2.1, bv h.v0.2.2.2, [.bool h.v1.1], [.int .u64 ((h.v1.2.1 : Nat) : Int)], bv h.v1.2.2.1, bv h.v1.2.2.2, [.bool h.s0.1], [.int .i64 h.s0.2.1], bv h.s0.2.2.1, bv h.s0.2.2.2.1, bv h.s0.2.2.2.2, [.bool h.s1.1], [.int .i64 h.s1.2.1], bv h.s1.2.2.1, bv h.s1.2.2.2.1, bv h.s1.2.2.2.2, [.bool h.s2.1], [.int .i64 h.s2.2.1], bv h.s2.2.2.1, bv h.s2.2.2.2.1, bv h.s2.2.2.2.2, [.bool h.s3.1], [.int .i64 h.s3.2.1], bv h.s3.2.2.1, bv h.s3.2.2.2.1, bv h.s3.2.2.2.2] [1, 1, 1, 1, 32, 32, 1, 1, 32, 32, 1, 1, 16, 32, 32, 1, 1, 16, 32, 32, 1, 1, 16, 32, 32, 1, 1, 16, 32, 32] 39]) ?_ ?_
    · skip
      refine wp_seq_k (fun K6 hK6 => ?_)
      refine wp_seq_k (fun K7 hK7 => ?_)
      refine wp_plain [true, true] rfl rfl ?_
      refine s_move hE rfl rfl ?_; clear hE a; intro a hE
      refine s_bin hE rfl rfl bin_lss rfl ?_; clear hE a; intro a hE
      replace hE := hE.cast 12 rfl (show _ = Value.bool true from (congrArg Value.bool (by decide)))
      refine q_nil ?_
      replace hE : Env a 57 [(1, _), (2, _), (3, _), (10, _), (12, _)] := hE.sel [1, 2, 3, 10, 12] rfl
      refine hK7 _ _ ?_
      refine wp_cond_true (hE.eval rfl) ?_
      refine wp_skip ?_
      refine hK6 _ _ ?_
      refine wp_seq_k (fun K8 hK8 => ?_)
      refine wp_block ?_
      refine wp_seq_k (fun K9 hK9 => ?_)
      refine wp_plain [true, true, true, true, false, false] rfl rfl ?_
      refine s_move hE rfl rfl ?_; clear hE a; intro a hE
      refine s_fieldAddr hE rfl fo39_1 rfl ?_; clear hE a; intro a hE
      refine s_indexArr (j := 0) hE rfl rfl arr32 rfl (by decide) rfl ?_; clear hE a; intro a hE
      refine s_loadN hE rfl (hM.get 0 rfl) row31 rfl (by intro X h; cases h) rfl ?_; clear hE a; intro a hE
      replace hE := hE.cast 18 rfl (show _ = Value.agg ([[.bool h.v0.1], [.int .u64 ((h.v0.2.1 : Nat) : Int)], bv h.v0.2.2.1, bv h.v0.2.2.2] : List (List Value)).flatten.toArray from (by first | rfl | simp only [List.flatten_cons, List.flatten_nil, List.append_nil, List.append_assoc]))
      refine s_alloc [1, 1, 32, 32] hE hM zeroL31 rfl rfl ?_; clear hE a; intro a b4 w3 hE hM'
      clear hM; have hM := hM'; clear hM'
      have hsl101_2 : h.v0.2.2.1.length = 32 := hk.v0.2.1
      have hsl101_3 : h.v0.2.2.2.length = 32 := hk.v0.2.2
      refine s_storeSegs 0 4 (vss := [[.bool h.v0.1], [.int .u64 ((h.v0.2.1 : Nat) : Int)], bv h.v0.2.2.1, bv h.v0.2.2.2]) hE rfl rfl hM rfl sz31 (by simp only [List.take_succ_cons, List.take_zero, List.drop_zero, List.drop_succ_cons]; simp only [List.map_cons, List.map_nil, bv_length, List.length_cons, List.length_nil, List.length_replicate, hsl101_2, hsl101_3]) (by decide) rfl (one_fl ⟨one1 rfl, one1 rfl, bv_one _, bv_one _, trivial⟩) rfl (by intro X h; cases h) ?_; intro w4 hM'; clear hM; have hM := hM'; clear hM'
      try simp only [List.take_zero, List.take_succ_cons, List.drop_zero, List.drop_succ_cons, List.take_nil, List.drop_nil, List.nil_append, List.append_nil, List.cons_append] at hM
      refine q_nil ?_
      replace hE : Env a 57 [(1, _), (2, _), (3, _), (4, _), (10, _), (12, _)] := hE.sel [1, 2, 3, 4, 10, 12] rfl
      refine hK9 _ _ ?_
      refine wp_seq_k (fun K10 hK10 => ?_)
      refine wp_plain [true, true, true, true, true, true, true, true, true, true, true, true, true] rfl rfl ?_
      refine s_fieldAddr hE rfl fo31_1 rfl ?_; clear hE a; intro a hE
      refine s_load1 hE rfl (hM.get 0 rfl) rfl one24 (by intro X h; cases h) rfl ?_; clear hE a; intro a hE
      refine s_bin hE rfl rfl bin_gtr rfl ?_; clear hE a; intro a hE
      refine s_move hE rfl rfl ?_; clear hE a; intro a hE
      refine hE.split 22 rfl (fun hb22 hE' => ?_) (fun hb22 hE' => ?_)
      · replace hE := hE'; clear hE'
        replace hb22 := of_decide_eq_true hb22
        replace hb22 : 4611686018427387904 < h.v0.2.1 := by omega
        refine g_no (b := true) hE rfl rfl rfl ?_; clear hE a; intro a hE
        refine g_no (b := true) hE rfl rfl rfl ?_; clear hE a; intro a hE
        refine g_no (b := true) hE rfl rfl rfl ?_; clear hE a; intro a hE
        refine g_no (b := true) hE rfl rfl rfl ?_; clear hE a; intro a hE
        refine g_und hE rfl rfl rfl ?_; clear hE a; intro a hE
        refine g_und hE rfl rfl rfl ?_; clear hE a; intro a hE
        refine g_und hE rfl rfl rfl ?_; clear hE a; intro a hE
        refine g_no (b := true) hE rfl rfl rfl ?_; clear hE a; intro a hE
        refine s_pickt hE rfl rfl rfl ?_; clear hE a; intro a hE
        refine q_nil ?_
        replace hE : Env a 57 [(1, _), (2, _), (3, _), (4, _), (10, _), (12, _), (31, _)] := hE.sel [1, 2, 3, 4, 10, 12, 31] rfl
        refine hK10 _ _ ?_
        refine wp_cond_true (hE.eval rfl) ?_
        refine wp_seq_k (fun K11 hK11 => ?_)
        refine wp_plain [true] rfl rfl ?_
        refine s_assign hE rfl rfl ?_; clear hE a; intro a hE
        refine q_nil ?_
        refine hK11 _ _ ?_
        refine wp_ret ?_
        refine q_block_r ?_
        refine q_then_r ?_
        refine q_then_r ?_
        refine q_block_r ?_
        refine q_then_r ?_
        refine f_ret1 hE rfl rfl ?_
        exact ⟨(by have hv : volB h.v0 = false := (by first | (simp [volB, volZ, hb22] <;> omega) | (simp_all [volB, volZ] <;> omega)); simp [shapedB, hv]), hM.pick [] rfl⟩
      · replace hE := hE'; clear hE'
        replace hb22 := of_decide_eq_false hb22
        replace hb22 : ¬ (4611686018427387904 < h.v0.2.1) := by omega
        refine g_yes hE rfl rfl ?_
        refine s_fieldAddr hE rfl fo31_0 rfl ?_; clear hE a; intro a hE
        refine g_yes hE rfl rfl ?_
        refine s_load1 hE rfl (hM.get 0 rfl) rfl one4 (by intro X h; cases h) rfl ?_; clear hE a; intro a hE
        refine g_yes hE rfl rfl ?_
        refine s_not hE rfl rfl ?_; clear hE a; intro a hE
        refine g_yes hE rfl rfl ?_
        refine s_move hE rfl rfl ?_; clear hE a; intro a hE
        refine hE.split 26 rfl (fun hb26 hE' => ?_) (fun hb26 hE' => ?_)
        · replace hE := hE'; clear hE'
          replace hb26 := not_true hb26
          refine g_yes hE rfl rfl ?_
          refine s_loadN hE rfl (hM.get 0 rfl) row31 rfl (by intro X h; cases h) rfl ?_; clear hE a; intro a hE
          replace hE := hE.cast 27 rfl (show _ = Value.agg ([[.bool h.v0.1], [.int .u64 ((h.v0.2.1 : Nat) : Int)], bv h.v0.2.2.1, bv h.v0.2.2.2] : List (List Value)).flatten.toArray from (by first | rfl | simp only [List.flatten_cons, List.flatten_nil, List.append_nil, List.append_assoc]))
          refine g_yes hE rfl rfl ?_
          refine s_buildS [] hE rfl zero31 (by kernel_rfl) fpl31 (by first | (simp [PartsOk, Value.cells]; done) | (simp [PartsOk, Value.cells]; omega)) rfl ?_; clear hE a; intro a hE
          replace hE := hE.cast 28 rfl (show _ = Value.agg ([[.bool false], [.int .u64 0], bv (List.replicate 32 (0 : UInt8)), bv (List.replicate 32 (0 : UInt8))] : List (List Value)).flatten.toArray from (by first | rfl | simp [setAll] | (simp only [setAll, List.set_cons_zero, List.set_cons_succ, List.flatten_cons, List.flatten_nil, List.append_nil, List.append_assoc, List.replicate_succ, List.replicate_zero])))
          refine g_yes hE rfl rfl ?_
          refine s_bin hE rfl rfl ((eqk31 (b := decide (h.v0.1 = false ∧ (((h.v0.2.1 : Nat) : Int) : Int) = 0 ∧ h.v0.2.2.1 = (List.replicate 32 (0 : UInt8)) ∧ h.v0.2.2.2 = (List.replicate 32 (0 : UInt8)))) (klL31 (k := 0) (x0 := h.v0.1) (x1 := ((h.v0.2.1 : Nat) : Int)) (x2 := h.v0.2.2.1) (x3 := h.v0.2.2.2) (wf_u64 hk.v0.1) hk.v0.2.1 hk.v0.2.2) (klL31 (k := 0) (x0 := false) (x1 := 0) (x2 := List.replicate 32 (0 : UInt8)) (x3 := List.replicate 32 (0 : UInt8)) (by first | exact wf_i64 (by assumption) | (simp [Lit.wf, IntKind.min, IntKind.max, IntKind.signed, IntKind.bits]; try omega)) List.length_replicate List.length_replicate) (by rw [flat_eq (by have hl_x2 : h.v0.2.2.1.length = 32 := hk.v0.2.1; have hl_x3 : h.v0.2.2.2.length = 32 := hk.v0.2.2; have hl_y2 : (List.replicate 32 (0 : UInt8)).length = 32 := List.length_replicate; have hl_y3 : (List.replicate 32 (0 : UInt8)).length = 32 := List.length_replicate; simp only [List.map_cons, List.map_nil, bv_length, List.length_cons, List.length_nil, hl_x2, hl_x3, hl_y2, hl_y3])]; simp [bv_iff, Int.ofNat_inj]; try omega)).2) rfl ?_; clear hE a; intro a hE
          refine g_yes hE rfl rfl ?_
          refine s_pickt hE rfl rfl rfl ?_; clear hE a; intro a hE
          refine s_pickf hE rfl rfl rfl ?_; clear hE a; intro a hE
          refine q_nil ?_
          replace hE : Env a 57 [(1, _), (2, _), (3, _), (4, _), (10, _), (12, _), (31, _)] := hE.sel [1, 2, 3, 4, 10, 12, 31] rfl
          refine hK10 _ _ ?_
          refine hE.split 31 rfl (fun hb31 hE' => ?_) (fun hb31 hE' => ?_)
          · replace hE := hE'; clear hE'
            replace hb31 := of_decide_eq_false (not_true hb31)
            refine wp_cond_true (hE.eval rfl) ?_
            refine wp_seq_k (fun K11 hK11 => ?_)
            refine wp_plain [true] rfl rfl ?_
            refine s_assign hE rfl rfl ?_; clear hE a; intro a hE
            refine q_nil ?_
            refine hK11 _ _ ?_
            refine wp_ret ?_
            refine q_block_r ?_
            refine q_then_r ?_
            refine q_then_r ?_
            refine q_block_r ?_
            refine q_then_r ?_
            refine f_ret1 hE rfl rfl ?_
            exact ⟨(by have hv : volB h.v0 = false := (by first | (simp [volB, volZ, hb22, hb26, hb31] <;> omega) | (simp_all [volB, volZ] <;> omega)); simp [shapedB, hv]), hM.pick [] rfl⟩
          · replace hE := hE'; clear hE'
            replace hb31 := of_decide_eq_true (not_false' hb31)
            refine wp_cond_false (hE.eval rfl) ?_
            refine wp_skip ?_
            refine q_block_n ?_
            refine hK8 _ _ ?_
            refine wp_plain [true, true, true] rfl rfl ?_
            refine s_move hE rfl rfl ?_; clear hE a; intro a hE
            refine s_bin hE rfl rfl (show Bin _ _ _ _ _ (.int .i64 1) from bin_add (by rw [wrap_i64 (by omega) (by omega)]; omega)) rfl ?_; clear hE a; intro a hE
            refine s_assign hE rfl rfl ?_; clear hE a; intro a hE
            refine q_nil ?_
            replace hE : Env a 57 [(1, _), (2, _), (3, _), (4, _), (10, _), (12, _), (31, _)] := hE.sel [1, 2, 3, 4, 10, 12, 31] rfl
            replace hM : Mem _ _ w4 [_] := hM.pick [1] rfl
            refine q_then_n ⟨(by first | (simp [volB, volZ, hb10, hb22, hb26, hb31] <;> omega) | (simp_all [volB, volZ] <;> omega)), hE.sel [1, 2, 3, 10] rfl, hM⟩
        · replace hE := hE'; clear hE'
          replace hb26 := not_false' hb26
          refine g_no (b := false) hE rfl rfl rfl ?_; clear hE a; intro a hE
          refine g_no (b := false) hE rfl rfl rfl ?_; clear hE a; intro a hE
          refine g_no (b := false) hE rfl rfl rfl ?_; clear hE a; intro a hE
          refine g_yes hE rfl rfl ?_
          refine s_pickf hE rfl rfl rfl ?_; clear hE a; intro a hE
          refine s_pickf hE rfl rfl rfl ?_; clear hE a; intro a hE
          refine q_nil ?_
          replace hE : Env a 57 [(1, _), (2, _), (3, _), (4, _), (10, _), (12, _), (31, _)] := hE.sel [1, 2, 3, 4, 10, 12, 31] rfl
          refine hK10 _ _ ?_
          refine wp_cond_false (hE.eval rfl) ?_
          refine wp_skip ?_
          refine q_block_n ?_
          refine hK8 _ _ ?_
          refine wp_plain [true, true, true] rfl rfl ?_
          refine s_move hE rfl rfl ?_; clear hE a; intro a hE
          refine s_bin hE rfl rfl (show Bin _ _ _ _ _ (.int .i64 1) from bin_add (by rw [wrap_i64 (by omega) (by omega)]; omega)) rfl ?_; clear hE a; intro a hE
          refine s_assign hE rfl rfl ?_; clear hE a; intro a hE
          refine q_nil ?_
          replace hE : Env a 57 [(1, _), (2, _), (3, _), (4, _), (10, _), (12, _), (31, _)] := hE.sel [1, 2, 3, 4, 10, 12, 31] rfl
          replace hM : Mem _ _ w4 [_] := hM.pick [1] rfl
          refine q_then_n ⟨(by first | (simp [volB, volZ, hb10, hb22, hb26] <;> omega) | (simp_all [volB, volZ] <;> omega)), hE.sel [1, 2, 3, 10] rfl, hM⟩
    clear hE hM a; rintro a w3 ⟨hJ4_0, hE, hM⟩
    refine c_roundsJ (fun a w' => volB h.v1 = true ∧ Env a 57 [(1, .pointer (some ⟨b1, 0, none⟩)), (2, .bool false), (3, .int .i64 2), (10, .bool false)] ∧ Mem w [] w' [blk b1 [[.int .i64 h.m], [.int .i64 h.r], [.bool h.v0.1], [.int .u64 ((h.v0.2.1 : Nat) : Int)], bv h.v0.2.2.1, bv h.v0.2.2.2, [.bool h.v1.1], [.int .u64 ((h.v1.2.1 : Nat) : Int)], bv h.v1.2.2.1, bv h.v1.2.2.2, [.bool h.s0.1], [.int .i64 h.s0.2.1], bv h.s0.2.2.1, bv h.s0.2.2.2.1, bv h.s0.2.2.2.2, [.bool h.s1.1], [.int .i64 h.s1.2.1], bv h.s1.2.2.1, bv h.s1.2.2.2.1, bv h.s1.2.2.2.2, [.bool h.s2.1], [.int .i64 h.s2.2.1], bv h.s2.2.2.1, bv h.s2.2.2.2.1, bv h.s2.2.2.2.2, [.bool h.s3.1], [.int .i64 h.s3.2.1], bv h.s3.2.2.1, bv h.s3.2.2.2.1, bv h.s3.2.2.2.2] [1, 1, 1, 1, 32, 32, 1, 1, 32, 32, 1, 1, 16, 32, 32, 1, 1, 16, 32, 32, 1, 1, 16, 32, 32, 1, 1, 16, 32, 32] 39]) ?_ ?_
    · skip
      refine wp_seq_k (fun K6 hK6 => ?_)
      refine wp_seq_k (fun K7 hK7 => ?_)
      refine wp_plain [true, true] rfl rfl ?_
      refine s_move hE rfl rfl ?_; clear hE a; intro a hE
      refine s_bin hE rfl rfl bin_lss rfl ?_; clear hE a; intro a hE
      replace hE := hE.cast 12 rfl (show _ = Value.bool true from (congrArg Value.bool (by decide)))
      refine q_nil ?_
      replace hE : Env a 57 [(1, _), (2, _), (3, _), (10, _), (12, _)] := hE.sel [1, 2, 3, 10, 12] rfl
      refine hK7 _ _ ?_
      refine wp_cond_true (hE.eval rfl) ?_
      refine wp_skip ?_
      refine hK6 _ _ ?_
      refine wp_seq_k (fun K8 hK8 => ?_)
      refine wp_block ?_
      refine wp_seq_k (fun K9 hK9 => ?_)
      refine wp_plain [true, true, true, true, false, false] rfl rfl ?_
      refine s_move hE rfl rfl ?_; clear hE a; intro a hE
      refine s_fieldAddr hE rfl fo39_1 rfl ?_; clear hE a; intro a hE
      refine s_indexArr (j := 1) hE rfl rfl arr32 rfl (by decide) rfl ?_; clear hE a; intro a hE
      refine s_loadN hE rfl (hM.get 0 rfl) row31 rfl (by intro X h; cases h) rfl ?_; clear hE a; intro a hE
      replace hE := hE.cast 18 rfl (show _ = Value.agg ([[.bool h.v1.1], [.int .u64 ((h.v1.2.1 : Nat) : Int)], bv h.v1.2.2.1, bv h.v1.2.2.2] : List (List Value)).flatten.toArray from (by first | rfl | simp only [List.flatten_cons, List.flatten_nil, List.append_nil, List.append_assoc]))
      refine s_alloc [1, 1, 32, 32] hE hM zeroL31 rfl rfl ?_; clear hE a; intro a b4 w4 hE hM'
      clear hM; have hM := hM'; clear hM'
      have hsl252_2 : h.v1.2.2.1.length = 32 := hk.v1.2.1
      have hsl252_3 : h.v1.2.2.2.length = 32 := hk.v1.2.2
      refine s_storeSegs 0 4 (vss := [[.bool h.v1.1], [.int .u64 ((h.v1.2.1 : Nat) : Int)], bv h.v1.2.2.1, bv h.v1.2.2.2]) hE rfl rfl hM rfl sz31 (by simp only [List.take_succ_cons, List.take_zero, List.drop_zero, List.drop_succ_cons]; simp only [List.map_cons, List.map_nil, bv_length, List.length_cons, List.length_nil, List.length_replicate, hsl252_2, hsl252_3]) (by decide) rfl (one_fl ⟨one1 rfl, one1 rfl, bv_one _, bv_one _, trivial⟩) rfl (by intro X h; cases h) ?_; intro w5 hM'; clear hM; have hM := hM'; clear hM'
      try simp only [List.take_zero, List.take_succ_cons, List.drop_zero, List.drop_succ_cons, List.take_nil, List.drop_nil, List.nil_append, List.append_nil, List.cons_append] at hM
      refine q_nil ?_
      replace hE : Env a 57 [(1, _), (2, _), (3, _), (4, _), (10, _), (12, _)] := hE.sel [1, 2, 3, 4, 10, 12] rfl
      refine hK9 _ _ ?_
      refine wp_seq_k (fun K10 hK10 => ?_)
      refine wp_plain [true, true, true, true, true, true, true, true, true, true, true, true, true] rfl rfl ?_
      refine s_fieldAddr hE rfl fo31_1 rfl ?_; clear hE a; intro a hE
      refine s_load1 hE rfl (hM.get 0 rfl) rfl one24 (by intro X h; cases h) rfl ?_; clear hE a; intro a hE
      refine s_bin hE rfl rfl bin_gtr rfl ?_; clear hE a; intro a hE
      refine s_move hE rfl rfl ?_; clear hE a; intro a hE
      refine hE.split 22 rfl (fun hb22 hE' => ?_) (fun hb22 hE' => ?_)
      · replace hE := hE'; clear hE'
        replace hb22 := of_decide_eq_true hb22
        replace hb22 : 4611686018427387904 < h.v1.2.1 := by omega
        refine g_no (b := true) hE rfl rfl rfl ?_; clear hE a; intro a hE
        refine g_no (b := true) hE rfl rfl rfl ?_; clear hE a; intro a hE
        refine g_no (b := true) hE rfl rfl rfl ?_; clear hE a; intro a hE
        refine g_no (b := true) hE rfl rfl rfl ?_; clear hE a; intro a hE
        refine g_und hE rfl rfl rfl ?_; clear hE a; intro a hE
        refine g_und hE rfl rfl rfl ?_; clear hE a; intro a hE
        refine g_und hE rfl rfl rfl ?_; clear hE a; intro a hE
        refine g_no (b := true) hE rfl rfl rfl ?_; clear hE a; intro a hE
        refine s_pickt hE rfl rfl rfl ?_; clear hE a; intro a hE
        refine q_nil ?_
        replace hE : Env a 57 [(1, _), (2, _), (3, _), (4, _), (10, _), (12, _), (31, _)] := hE.sel [1, 2, 3, 4, 10, 12, 31] rfl
        refine hK10 _ _ ?_
        refine wp_cond_true (hE.eval rfl) ?_
        refine wp_seq_k (fun K11 hK11 => ?_)
        refine wp_plain [true] rfl rfl ?_
        refine s_assign hE rfl rfl ?_; clear hE a; intro a hE
        refine q_nil ?_
        refine hK11 _ _ ?_
        refine wp_ret ?_
        refine q_block_r ?_
        refine q_then_r ?_
        refine q_then_r ?_
        refine q_block_r ?_
        refine q_then_r ?_
        refine f_ret1 hE rfl rfl ?_
        exact ⟨(by have hv : volB h.v1 = false := (by first | (simp [volB, volZ, hb22] <;> omega) | (simp_all [volB, volZ] <;> omega)); simp [shapedB, hv]), hM.pick [] rfl⟩
      · replace hE := hE'; clear hE'
        replace hb22 := of_decide_eq_false hb22
        replace hb22 : ¬ (4611686018427387904 < h.v1.2.1) := by omega
        refine g_yes hE rfl rfl ?_
        refine s_fieldAddr hE rfl fo31_0 rfl ?_; clear hE a; intro a hE
        refine g_yes hE rfl rfl ?_
        refine s_load1 hE rfl (hM.get 0 rfl) rfl one4 (by intro X h; cases h) rfl ?_; clear hE a; intro a hE
        refine g_yes hE rfl rfl ?_
        refine s_not hE rfl rfl ?_; clear hE a; intro a hE
        refine g_yes hE rfl rfl ?_
        refine s_move hE rfl rfl ?_; clear hE a; intro a hE
        refine hE.split 26 rfl (fun hb26 hE' => ?_) (fun hb26 hE' => ?_)
        · replace hE := hE'; clear hE'
          replace hb26 := not_true hb26
          refine g_yes hE rfl rfl ?_
          refine s_loadN hE rfl (hM.get 0 rfl) row31 rfl (by intro X h; cases h) rfl ?_; clear hE a; intro a hE
          replace hE := hE.cast 27 rfl (show _ = Value.agg ([[.bool h.v1.1], [.int .u64 ((h.v1.2.1 : Nat) : Int)], bv h.v1.2.2.1, bv h.v1.2.2.2] : List (List Value)).flatten.toArray from (by first | rfl | simp only [List.flatten_cons, List.flatten_nil, List.append_nil, List.append_assoc]))
          refine g_yes hE rfl rfl ?_
          refine s_buildS [] hE rfl zero31 (by kernel_rfl) fpl31 (by first | (simp [PartsOk, Value.cells]; done) | (simp [PartsOk, Value.cells]; omega)) rfl ?_; clear hE a; intro a hE
          replace hE := hE.cast 28 rfl (show _ = Value.agg ([[.bool false], [.int .u64 0], bv (List.replicate 32 (0 : UInt8)), bv (List.replicate 32 (0 : UInt8))] : List (List Value)).flatten.toArray from (by first | rfl | simp [setAll] | (simp only [setAll, List.set_cons_zero, List.set_cons_succ, List.flatten_cons, List.flatten_nil, List.append_nil, List.append_assoc, List.replicate_succ, List.replicate_zero])))
          refine g_yes hE rfl rfl ?_
          refine s_bin hE rfl rfl ((eqk31 (b := decide (h.v1.1 = false ∧ (((h.v1.2.1 : Nat) : Int) : Int) = 0 ∧ h.v1.2.2.1 = (List.replicate 32 (0 : UInt8)) ∧ h.v1.2.2.2 = (List.replicate 32 (0 : UInt8)))) (klL31 (k := 0) (x0 := h.v1.1) (x1 := ((h.v1.2.1 : Nat) : Int)) (x2 := h.v1.2.2.1) (x3 := h.v1.2.2.2) (wf_u64 hk.v1.1) hk.v1.2.1 hk.v1.2.2) (klL31 (k := 0) (x0 := false) (x1 := 0) (x2 := List.replicate 32 (0 : UInt8)) (x3 := List.replicate 32 (0 : UInt8)) (by first | exact wf_i64 (by assumption) | (simp [Lit.wf, IntKind.min, IntKind.max, IntKind.signed, IntKind.bits]; try omega)) List.length_replicate List.length_replicate) (by rw [flat_eq (by have hl_x2 : h.v1.2.2.1.length = 32 := hk.v1.2.1; have hl_x3 : h.v1.2.2.2.length = 32 := hk.v1.2.2; have hl_y2 : (List.replicate 32 (0 : UInt8)).length = 32 := List.length_replicate; have hl_y3 : (List.replicate 32 (0 : UInt8)).length = 32 := List.length_replicate; simp only [List.map_cons, List.map_nil, bv_length, List.length_cons, List.length_nil, hl_x2, hl_x3, hl_y2, hl_y3])]; simp [bv_iff, Int.ofNat_inj]; try omega)).2) rfl ?_; clear hE a; intro a hE
          refine g_yes hE rfl rfl ?_
          refine s_pickt hE rfl rfl rfl ?_; clear hE a; intro a hE
          refine s_pickf hE rfl rfl rfl ?_; clear hE a; intro a hE
          refine q_nil ?_
          replace hE : Env a 57 [(1, _), (2, _), (3, _), (4, _), (10, _), (12, _), (31, _)] := hE.sel [1, 2, 3, 4, 10, 12, 31] rfl
          refine hK10 _ _ ?_
          refine hE.split 31 rfl (fun hb31 hE' => ?_) (fun hb31 hE' => ?_)
          · replace hE := hE'; clear hE'
            replace hb31 := of_decide_eq_false (not_true hb31)
            refine wp_cond_true (hE.eval rfl) ?_
            refine wp_seq_k (fun K11 hK11 => ?_)
            refine wp_plain [true] rfl rfl ?_
            refine s_assign hE rfl rfl ?_; clear hE a; intro a hE
            refine q_nil ?_
            refine hK11 _ _ ?_
            refine wp_ret ?_
            refine q_block_r ?_
            refine q_then_r ?_
            refine q_then_r ?_
            refine q_block_r ?_
            refine q_then_r ?_
            refine f_ret1 hE rfl rfl ?_
            exact ⟨(by have hv : volB h.v1 = false := (by first | (simp [volB, volZ, hb22, hb26, hb31] <;> omega) | (simp_all [volB, volZ] <;> omega)); simp [shapedB, hv]), hM.pick [] rfl⟩
          · replace hE := hE'; clear hE'
            replace hb31 := of_decide_eq_true (not_false' hb31)
            refine wp_cond_false (hE.eval rfl) ?_
            refine wp_skip ?_
            refine q_block_n ?_
            refine hK8 _ _ ?_
            refine wp_plain [true, true, true] rfl rfl ?_
            refine s_move hE rfl rfl ?_; clear hE a; intro a hE
            refine s_bin hE rfl rfl (show Bin _ _ _ _ _ (.int .i64 2) from bin_add (by rw [wrap_i64 (by omega) (by omega)]; omega)) rfl ?_; clear hE a; intro a hE
            refine s_assign hE rfl rfl ?_; clear hE a; intro a hE
            refine q_nil ?_
            replace hE : Env a 57 [(1, _), (2, _), (3, _), (4, _), (10, _), (12, _), (31, _)] := hE.sel [1, 2, 3, 4, 10, 12, 31] rfl
            replace hM : Mem _ _ w5 [_] := hM.pick [1] rfl
            refine q_then_n ⟨(by first | (simp [volB, volZ, hb10, hJ4_0, hb22, hb26, hb31] <;> omega) | (simp_all [volB, volZ] <;> omega)), hE.sel [1, 2, 3, 10] rfl, hM⟩
        · replace hE := hE'; clear hE'
          replace hb26 := not_false' hb26
          refine g_no (b := false) hE rfl rfl rfl ?_; clear hE a; intro a hE
          refine g_no (b := false) hE rfl rfl rfl ?_; clear hE a; intro a hE
          refine g_no (b := false) hE rfl rfl rfl ?_; clear hE a; intro a hE
          refine g_yes hE rfl rfl ?_
          refine s_pickf hE rfl rfl rfl ?_; clear hE a; intro a hE
          refine s_pickf hE rfl rfl rfl ?_; clear hE a; intro a hE
          refine q_nil ?_
          replace hE : Env a 57 [(1, _), (2, _), (3, _), (4, _), (10, _), (12, _), (31, _)] := hE.sel [1, 2, 3, 4, 10, 12, 31] rfl
          refine hK10 _ _ ?_
          refine wp_cond_false (hE.eval rfl) ?_
          refine wp_skip ?_
          refine q_block_n ?_
          refine hK8 _ _ ?_
          refine wp_plain [true, true, true] rfl rfl ?_
          refine s_move hE rfl rfl ?_; clear hE a; intro a hE
          refine s_bin hE rfl rfl (show Bin _ _ _ _ _ (.int .i64 2) from bin_add (by rw [wrap_i64 (by omega) (by omega)]; omega)) rfl ?_; clear hE a; intro a hE
          refine s_assign hE rfl rfl ?_; clear hE a; intro a hE
          refine q_nil ?_
          replace hE : Env a 57 [(1, _), (2, _), (3, _), (4, _), (10, _), (12, _), (31, _)] := hE.sel [1, 2, 3, 4, 10, 12, 31] rfl
          replace hM : Mem _ _ w5 [_] := hM.pick [1] rfl
          refine q_then_n ⟨(by first | (simp [volB, volZ, hb10, hJ4_0, hb22, hb26] <;> omega) | (simp_all [volB, volZ] <;> omega)), hE.sel [1, 2, 3, 10] rfl, hM⟩
    clear hE hM a; rintro a w4 ⟨hJ4_1, hE, hM⟩
    refine c_rounds ?_
    refine wp_seq_k (fun K6 hK6 => ?_)
    refine wp_seq_k (fun K7 hK7 => ?_)
    refine wp_plain [true, true] rfl rfl ?_
    refine s_move hE rfl rfl ?_; clear hE a; intro a hE
    refine s_bin hE rfl rfl bin_lss rfl ?_; clear hE a; intro a hE
    replace hE := hE.cast 12 rfl (show _ = Value.bool false from (congrArg Value.bool (by decide)))
    refine q_nil ?_
    replace hE : Env a 57 [(1, _), (2, _), (3, _), (10, _), (12, _)] := hE.sel [1, 2, 3, 10, 12] rfl
    refine hK7 _ _ ?_
    refine wp_cond_false (hE.eval rfl) ?_
    refine wp_exit ?_
    refine q_then_e ?_
    refine q_then_e ?_
    refine q_block_x ?_
    refine hK4 _ _ ?_
    refine wp_seq_k (fun K8 hK8 => ?_)
    refine wp_seq_k (fun K9 hK9 => ?_)
    refine wp_plain [true] rfl rfl ?_
    refine s_assign hE rfl rfl ?_; clear hE a; intro a hE
    refine q_nil ?_
    refine hK9 _ _ ?_
    refine wp_block ?_
    refine wp_loop_rounds 5 ?_
    refine c_roundsJ (fun a w' => slotB h.s0 = true ∧ Env a 57 [(1, .pointer (some ⟨b1, 0, none⟩)), (2, .bool false), (3, .int .i64 2), (5, .int .i64 1), (10, .bool false), (12, .bool false)] ∧ Mem w [] w' [blk b1 [[.int .i64 h.m], [.int .i64 h.r], [.bool h.v0.1], [.int .u64 ((h.v0.2.1 : Nat) : Int)], bv h.v0.2.2.1, bv h.v0.2.2.2, [.bool h.v1.1], [.int .u64 ((h.v1.2.1 : Nat) : Int)], bv h.v1.2.2.1, bv h.v1.2.2.2, [.bool h.s0.1], [.int .i64 h.s0.2.1], bv h.s0.2.2.1, bv h.s0.2.2.2.1, bv h.s0.2.2.2.2, [.bool h.s1.1], [.int .i64 h.s1.2.1], bv h.s1.2.2.1, bv h.s1.2.2.2.1, bv h.s1.2.2.2.2, [.bool h.s2.1], [.int .i64 h.s2.2.1], bv h.s2.2.2.1, bv h.s2.2.2.2.1, bv h.s2.2.2.2.2, [.bool h.s3.1], [.int .i64 h.s3.2.1], bv h.s3.2.2.1, bv h.s3.2.2.2.1, bv h.s3.2.2.2.2] [1, 1, 1, 1, 32, 32, 1, 1, 32, 32, 1, 1, 16, 32, 32, 1, 1, 16, 32, 32, 1, 1, 16, 32, 32, 1, 1, 16, 32, 32] 39]) ?_ ?_
    · skip
      refine wp_seq_k (fun K10 hK10 => ?_)
      refine wp_seq_k (fun K11 hK11 => ?_)
      refine wp_plain [true, true] rfl rfl ?_
      refine s_move hE rfl rfl ?_; clear hE a; intro a hE
      refine s_bin hE rfl rfl bin_lss rfl ?_; clear hE a; intro a hE
      replace hE := hE.cast 33 rfl (show _ = Value.bool true from (congrArg Value.bool (by decide)))
      refine q_nil ?_
      replace hE : Env a 57 [(1, _), (2, _), (3, _), (5, _), (10, _), (12, _), (33, _)] := hE.sel [1, 2, 3, 5, 10, 12, 33] rfl
      refine hK11 _ _ ?_
      refine wp_cond_true (hE.eval rfl) ?_
      refine wp_skip ?_
      refine hK10 _ _ ?_
      refine wp_seq_k (fun K12 hK12 => ?_)
      refine wp_block ?_
      refine wp_seq_k (fun K13 hK13 => ?_)
      refine wp_plain [true, true, true, true, false, false] rfl rfl ?_
      refine s_move hE rfl rfl ?_; clear hE a; intro a hE
      refine s_fieldAddr hE rfl fo39_2 rfl ?_; clear hE a; intro a hE
      refine s_indexArr (j := 0) hE rfl rfl arr37 rfl (by decide) rfl ?_; clear hE a; intro a hE
      refine s_loadN hE rfl (hM.get 0 rfl) row36 rfl (by intro X h; cases h) rfl ?_; clear hE a; intro a hE
      replace hE := hE.cast 39 rfl (show _ = Value.agg ([[.bool h.s0.1], [.int .i64 h.s0.2.1], bv h.s0.2.2.1, bv h.s0.2.2.2.1, bv h.s0.2.2.2.2] : List (List Value)).flatten.toArray from (by first | rfl | simp only [List.flatten_cons, List.flatten_nil, List.append_nil, List.append_assoc]))
      refine s_alloc [1, 1, 16, 32, 32] hE hM zeroL36 rfl rfl ?_; clear hE a; intro a b6 w5 hE hM'
      clear hM; have hM := hM'; clear hM'
      have hsl427_2 : h.s0.2.2.1.length = 16 := hk.s0.2.1
      have hsl427_3 : h.s0.2.2.2.1.length = 32 := hk.s0.2.2.1
      have hsl427_4 : h.s0.2.2.2.2.length = 32 := hk.s0.2.2.2
      refine s_storeSegs 0 5 (vss := [[.bool h.s0.1], [.int .i64 h.s0.2.1], bv h.s0.2.2.1, bv h.s0.2.2.2.1, bv h.s0.2.2.2.2]) hE rfl rfl hM rfl sz36 (by simp only [List.take_succ_cons, List.take_zero, List.drop_zero, List.drop_succ_cons]; simp only [List.map_cons, List.map_nil, bv_length, List.length_cons, List.length_nil, List.length_replicate, hsl427_2, hsl427_3, hsl427_4]) (by decide) rfl (one_fl ⟨one1 rfl, one1 rfl, bv_one _, bv_one _, bv_one _, trivial⟩) rfl (by intro X h; cases h) ?_; intro w6 hM'; clear hM; have hM := hM'; clear hM'
      try simp only [List.take_zero, List.take_succ_cons, List.drop_zero, List.drop_succ_cons, List.take_nil, List.drop_nil, List.nil_append, List.append_nil, List.cons_append] at hM
      refine q_nil ?_
      replace hE : Env a 57 [(1, _), (2, _), (3, _), (5, _), (6, _), (10, _), (12, _), (33, _)] := hE.sel [1, 2, 3, 5, 6, 10, 12, 33] rfl
      refine hK13 _ _ ?_
      refine wp_seq_k (fun K14 hK14 => ?_)
      refine wp_plain [true, true, true, true, true, true, true, true, true, true, true, true, true, true, true, true, true] rfl rfl ?_
      refine s_fieldAddr hE rfl fo36_0 rfl ?_; clear hE a; intro a hE
      refine s_load1 hE rfl (hM.get 0 rfl) rfl one4 (by intro X h; cases h) rfl ?_; clear hE a; intro a hE
      refine s_not hE rfl rfl ?_; clear hE a; intro a hE
      refine s_move hE rfl rfl ?_; clear hE a; intro a hE
      refine hE.split 43 rfl (fun hb43 hE' => ?_) (fun hb43 hE' => ?_)
      · replace hE := hE'; clear hE'
        replace hb43 := not_true hb43
        refine g_yes hE rfl rfl ?_
        refine s_loadN hE rfl (hM.get 0 rfl) row36 rfl (by intro X h; cases h) rfl ?_; clear hE a; intro a hE
        replace hE := hE.cast 44 rfl (show _ = Value.agg ([[.bool h.s0.1], [.int .i64 h.s0.2.1], bv h.s0.2.2.1, bv h.s0.2.2.2.1, bv h.s0.2.2.2.2] : List (List Value)).flatten.toArray from (by first | rfl | simp only [List.flatten_cons, List.flatten_nil, List.append_nil, List.append_assoc]))
        refine g_yes hE rfl rfl ?_
        refine s_buildS [] hE rfl zero36 (by kernel_rfl) fpl36 (by first | (simp [PartsOk, Value.cells]; done) | (simp [PartsOk, Value.cells]; omega)) rfl ?_; clear hE a; intro a hE
        replace hE := hE.cast 45 rfl (show _ = Value.agg ([[.bool false], [.int .i64 0], bv (List.replicate 16 (0 : UInt8)), bv (List.replicate 32 (0 : UInt8)), bv (List.replicate 32 (0 : UInt8))] : List (List Value)).flatten.toArray from (by first | rfl | simp [setAll] | (simp only [setAll, List.set_cons_zero, List.set_cons_succ, List.flatten_cons, List.flatten_nil, List.append_nil, List.append_assoc, List.replicate_succ, List.replicate_zero])))
        refine g_yes hE rfl rfl ?_
        refine s_bin hE rfl rfl ((eqk36 (b := decide (h.s0.1 = false ∧ (h.s0.2.1 : Int) = 0 ∧ h.s0.2.2.1 = (List.replicate 16 (0 : UInt8)) ∧ h.s0.2.2.2.1 = (List.replicate 32 (0 : UInt8)) ∧ h.s0.2.2.2.2 = (List.replicate 32 (0 : UInt8)))) (klL36 (k := 0) (x0 := h.s0.1) (x1 := h.s0.2.1) (x2 := h.s0.2.2.1) (x3 := h.s0.2.2.2.1) (x4 := h.s0.2.2.2.2) (wf_i64 hk.s0.1) hk.s0.2.1 hk.s0.2.2.1 hk.s0.2.2.2) (klL36 (k := 0) (x0 := false) (x1 := 0) (x2 := List.replicate 16 (0 : UInt8)) (x3 := List.replicate 32 (0 : UInt8)) (x4 := List.replicate 32 (0 : UInt8)) (by first | exact wf_i64 (by assumption) | (simp [Lit.wf, IntKind.min, IntKind.max, IntKind.signed, IntKind.bits]; try omega)) List.length_replicate List.length_replicate List.length_replicate) (by rw [flat_eq (by have hl_x2 : h.s0.2.2.1.length = 16 := hk.s0.2.1; have hl_x3 : h.s0.2.2.2.1.length = 32 := hk.s0.2.2.1; have hl_x4 : h.s0.2.2.2.2.length = 32 := hk.s0.2.2.2; have hl_y2 : (List.replicate 16 (0 : UInt8)).length = 16 := List.length_replicate; have hl_y3 : (List.replicate 32 (0 : UInt8)).length = 32 := List.length_replicate; have hl_y4 : (List.replicate 32 (0 : UInt8)).length = 32 := List.length_replicate; simp only [List.map_cons, List.map_nil, bv_length, List.length_cons, List.length_nil, hl_x2, hl_x3, hl_x4, hl_y2, hl_y3, hl_y4])]; simp [bv_iff, Int.ofNat_inj]; try omega)).2) rfl ?_; clear hE a; intro a hE
        refine s_pickt hE rfl rfl rfl ?_; clear hE a; intro a hE
        refine s_move hE rfl rfl ?_; clear hE a; intro a hE
        refine hE.split 48 rfl (fun hb48 hE' => ?_) (fun hb48 hE' => ?_)
        · replace hE := hE'; clear hE'
          replace hb48 := of_decide_eq_false (not_true hb48)
          refine g_no (b := true) hE rfl rfl rfl ?_; clear hE a; intro a hE
          refine g_no (b := true) hE rfl rfl rfl ?_; clear hE a; intro a hE
          refine g_no (b := true) hE rfl rfl rfl ?_; clear hE a; intro a hE
          refine g_und hE rfl rfl rfl ?_; clear hE a; intro a hE
          refine g_und hE rfl rfl rfl ?_; clear hE a; intro a hE
          refine g_und hE rfl rfl rfl ?_; clear hE a; intro a hE
          refine g_no (b := true) hE rfl rfl rfl ?_; clear hE a; intro a hE
          refine s_pickt hE rfl rfl rfl ?_; clear hE a; intro a hE
          refine q_nil ?_
          replace hE : Env a 57 [(1, _), (2, _), (3, _), (5, _), (6, _), (10, _), (12, _), (33, _), (56, _)] := hE.sel [1, 2, 3, 5, 6, 10, 12, 33, 56] rfl
          refine hK14 _ _ ?_
          refine wp_cond_true (hE.eval rfl) ?_
          refine wp_seq_k (fun K15 hK15 => ?_)
          refine wp_plain [true] rfl rfl ?_
          refine s_assign hE rfl rfl ?_; clear hE a; intro a hE
          refine q_nil ?_
          refine hK15 _ _ ?_
          refine wp_ret ?_
          refine q_block_r ?_
          refine q_then_r ?_
          refine q_then_r ?_
          refine q_block_r ?_
          refine q_then_r ?_
          refine f_ret1 hE rfl rfl ?_
          exact ⟨(by have hv : slotB h.s0 = false := (by first | (simp [slotB, slotZ, hb43, hb48] <;> omega) | (simp_all [slotB, slotZ] <;> omega)); simp [shapedB, hv]), hM.pick [] rfl⟩
        · replace hE := hE'; clear hE'
          replace hb48 := of_decide_eq_true (not_false' hb48)
          refine g_yes hE rfl rfl ?_
          refine s_fieldAddr hE rfl fo36_0 rfl ?_; clear hE a; intro a hE
          refine g_yes hE rfl rfl ?_
          refine s_load1 hE rfl (hM.get 0 rfl) rfl one4 (by intro X h; cases h) rfl ?_; clear hE a; intro a hE
          refine g_yes hE rfl rfl ?_
          refine s_move hE rfl rfl ?_; clear hE a; intro a hE
          refine hE.split 51 rfl (fun hb51 hE' => ?_) (fun hb51 hE' => ?_)
          · replace hE := hE'; clear hE'
            refine g_yes hE rfl rfl ?_
            refine s_fieldAddr hE rfl fo36_1 rfl ?_; clear hE a; intro a hE
            refine g_yes hE rfl rfl ?_
            refine s_load1 hE rfl (hM.get 0 rfl) rfl one3 (by intro X h; cases h) rfl ?_; clear hE a; intro a hE
            refine g_yes hE rfl rfl ?_
            refine s_bin hE rfl rfl bin_lss rfl ?_; clear hE a; intro a hE
            refine g_yes hE rfl rfl ?_
            refine s_pickt hE rfl rfl rfl ?_; clear hE a; intro a hE
            refine s_pickf hE rfl rfl rfl ?_; clear hE a; intro a hE
            refine q_nil ?_
            replace hE : Env a 57 [(1, _), (2, _), (3, _), (5, _), (6, _), (10, _), (12, _), (33, _), (56, _)] := hE.sel [1, 2, 3, 5, 6, 10, 12, 33, 56] rfl
            refine hK14 _ _ ?_
            refine hE.split 56 rfl (fun hb56 hE' => ?_) (fun hb56 hE' => ?_)
            · replace hE := hE'; clear hE'
              replace hb56 := of_decide_eq_true hb56
              refine wp_cond_true (hE.eval rfl) ?_
              refine wp_seq_k (fun K15 hK15 => ?_)
              refine wp_plain [true] rfl rfl ?_
              refine s_assign hE rfl rfl ?_; clear hE a; intro a hE
              refine q_nil ?_
              refine hK15 _ _ ?_
              refine wp_ret ?_
              refine q_block_r ?_
              refine q_then_r ?_
              refine q_then_r ?_
              refine q_block_r ?_
              refine q_then_r ?_
              refine f_ret1 hE rfl rfl ?_
              exact ⟨(by have hv : slotB h.s0 = false := (by first | (simp [slotB, slotZ, hb43, hb48, hb51, hb56] <;> omega) | (simp_all [slotB, slotZ] <;> omega)); simp [shapedB, hv]), hM.pick [] rfl⟩
            · replace hE := hE'; clear hE'
              replace hb56 := of_decide_eq_false hb56
              refine wp_cond_false (hE.eval rfl) ?_
              refine wp_skip ?_
              refine q_block_n ?_
              refine hK12 _ _ ?_
              refine wp_plain [true, true, true] rfl rfl ?_
              refine s_move hE rfl rfl ?_; clear hE a; intro a hE
              refine s_bin hE rfl rfl (show Bin _ _ _ _ _ (.int .i64 1) from bin_add (by rw [wrap_i64 (by omega) (by omega)]; omega)) rfl ?_; clear hE a; intro a hE
              refine s_assign hE rfl rfl ?_; clear hE a; intro a hE
              refine q_nil ?_
              replace hE : Env a 57 [(1, _), (2, _), (3, _), (5, _), (6, _), (10, _), (12, _), (33, _), (56, _)] := hE.sel [1, 2, 3, 5, 6, 10, 12, 33, 56] rfl
              replace hM : Mem _ _ w6 [_] := hM.pick [1] rfl
              refine q_then_n ⟨(by first | (simp [slotB, slotZ, hb10, hJ4_0, hJ4_1, hb43, hb48, hb51, hb56] <;> omega) | (simp_all [slotB, slotZ] <;> omega)), hE.sel [1, 2, 3, 5, 10, 12] rfl, hM⟩
          · replace hE := hE'; clear hE'
            refine g_no (b := false) hE rfl rfl rfl ?_; clear hE a; intro a hE
            refine g_no (b := false) hE rfl rfl rfl ?_; clear hE a; intro a hE
            refine g_no (b := false) hE rfl rfl rfl ?_; clear hE a; intro a hE
            refine g_yes hE rfl rfl ?_
            refine s_pickf hE rfl rfl rfl ?_; clear hE a; intro a hE
            refine s_pickf hE rfl rfl rfl ?_; clear hE a; intro a hE
            refine q_nil ?_
            replace hE : Env a 57 [(1, _), (2, _), (3, _), (5, _), (6, _), (10, _), (12, _), (33, _), (56, _)] := hE.sel [1, 2, 3, 5, 6, 10, 12, 33, 56] rfl
            refine hK14 _ _ ?_
            refine wp_cond_false (hE.eval rfl) ?_
            refine wp_skip ?_
            refine q_block_n ?_
            refine hK12 _ _ ?_
            refine wp_plain [true, true, true] rfl rfl ?_
            refine s_move hE rfl rfl ?_; clear hE a; intro a hE
            refine s_bin hE rfl rfl (show Bin _ _ _ _ _ (.int .i64 1) from bin_add (by rw [wrap_i64 (by omega) (by omega)]; omega)) rfl ?_; clear hE a; intro a hE
            refine s_assign hE rfl rfl ?_; clear hE a; intro a hE
            refine q_nil ?_
            replace hE : Env a 57 [(1, _), (2, _), (3, _), (5, _), (6, _), (10, _), (12, _), (33, _), (56, _)] := hE.sel [1, 2, 3, 5, 6, 10, 12, 33, 56] rfl
            replace hM : Mem _ _ w6 [_] := hM.pick [1] rfl
            refine q_then_n ⟨(by first | (simp [slotB, slotZ, hb10, hJ4_0, hJ4_1, hb43, hb48, hb51] <;> omega) | (simp_all [slotB, slotZ] <;> omega)), hE.sel [1, 2, 3, 5, 10, 12] rfl, hM⟩
      · replace hE := hE'; clear hE'
        replace hb43 := not_false' hb43
        refine g_no (b := false) hE rfl rfl rfl ?_; clear hE a; intro a hE
        refine g_no (b := false) hE rfl rfl rfl ?_; clear hE a; intro a hE
        refine g_no (b := false) hE rfl rfl rfl ?_; clear hE a; intro a hE
        refine s_pickf hE rfl rfl rfl ?_; clear hE a; intro a hE
        refine s_move hE rfl rfl ?_; clear hE a; intro a hE
        refine g_yes hE rfl rfl ?_
        refine s_fieldAddr hE rfl fo36_0 rfl ?_; clear hE a; intro a hE
        refine g_yes hE rfl rfl ?_
        refine s_load1 hE rfl (hM.get 0 rfl) rfl one4 (by intro X h; cases h) rfl ?_; clear hE a; intro a hE
        refine g_yes hE rfl rfl ?_
        refine s_move hE rfl rfl ?_; clear hE a; intro a hE
        refine hE.split 51 rfl (fun hb51 hE' => ?_) (fun hb51 hE' => ?_)
        · replace hE := hE'; clear hE'
          refine g_yes hE rfl rfl ?_
          refine s_fieldAddr hE rfl fo36_1 rfl ?_; clear hE a; intro a hE
          refine g_yes hE rfl rfl ?_
          refine s_load1 hE rfl (hM.get 0 rfl) rfl one3 (by intro X h; cases h) rfl ?_; clear hE a; intro a hE
          refine g_yes hE rfl rfl ?_
          refine s_bin hE rfl rfl bin_lss rfl ?_; clear hE a; intro a hE
          refine g_yes hE rfl rfl ?_
          refine s_pickt hE rfl rfl rfl ?_; clear hE a; intro a hE
          refine s_pickf hE rfl rfl rfl ?_; clear hE a; intro a hE
          refine q_nil ?_
          replace hE : Env a 57 [(1, _), (2, _), (3, _), (5, _), (6, _), (10, _), (12, _), (33, _), (56, _)] := hE.sel [1, 2, 3, 5, 6, 10, 12, 33, 56] rfl
          refine hK14 _ _ ?_
          refine hE.split 56 rfl (fun hb56 hE' => ?_) (fun hb56 hE' => ?_)
          · replace hE := hE'; clear hE'
            replace hb56 := of_decide_eq_true hb56
            refine wp_cond_true (hE.eval rfl) ?_
            refine wp_seq_k (fun K15 hK15 => ?_)
            refine wp_plain [true] rfl rfl ?_
            refine s_assign hE rfl rfl ?_; clear hE a; intro a hE
            refine q_nil ?_
            refine hK15 _ _ ?_
            refine wp_ret ?_
            refine q_block_r ?_
            refine q_then_r ?_
            refine q_then_r ?_
            refine q_block_r ?_
            refine q_then_r ?_
            refine f_ret1 hE rfl rfl ?_
            exact ⟨(by have hv : slotB h.s0 = false := (by first | (simp [slotB, slotZ, hb43, hb51, hb56] <;> omega) | (simp_all [slotB, slotZ] <;> omega)); simp [shapedB, hv]), hM.pick [] rfl⟩
          · replace hE := hE'; clear hE'
            replace hb56 := of_decide_eq_false hb56
            refine wp_cond_false (hE.eval rfl) ?_
            refine wp_skip ?_
            refine q_block_n ?_
            refine hK12 _ _ ?_
            refine wp_plain [true, true, true] rfl rfl ?_
            refine s_move hE rfl rfl ?_; clear hE a; intro a hE
            refine s_bin hE rfl rfl (show Bin _ _ _ _ _ (.int .i64 1) from bin_add (by rw [wrap_i64 (by omega) (by omega)]; omega)) rfl ?_; clear hE a; intro a hE
            refine s_assign hE rfl rfl ?_; clear hE a; intro a hE
            refine q_nil ?_
            replace hE : Env a 57 [(1, _), (2, _), (3, _), (5, _), (6, _), (10, _), (12, _), (33, _), (56, _)] := hE.sel [1, 2, 3, 5, 6, 10, 12, 33, 56] rfl
            replace hM : Mem _ _ w6 [_] := hM.pick [1] rfl
            refine q_then_n ⟨(by first | (simp [slotB, slotZ, hb10, hJ4_0, hJ4_1, hb43, hb51, hb56] <;> omega) | (simp_all [slotB, slotZ] <;> omega)), hE.sel [1, 2, 3, 5, 10, 12] rfl, hM⟩
        · replace hE := hE'; clear hE'
          refine g_no (b := false) hE rfl rfl rfl ?_; clear hE a; intro a hE
          refine g_no (b := false) hE rfl rfl rfl ?_; clear hE a; intro a hE
          refine g_no (b := false) hE rfl rfl rfl ?_; clear hE a; intro a hE
          refine g_yes hE rfl rfl ?_
          refine s_pickf hE rfl rfl rfl ?_; clear hE a; intro a hE
          refine s_pickf hE rfl rfl rfl ?_; clear hE a; intro a hE
          refine q_nil ?_
          replace hE : Env a 57 [(1, _), (2, _), (3, _), (5, _), (6, _), (10, _), (12, _), (33, _), (56, _)] := hE.sel [1, 2, 3, 5, 6, 10, 12, 33, 56] rfl
          refine hK14 _ _ ?_
          refine wp_cond_false (hE.eval rfl) ?_
          refine wp_skip ?_
          refine q_block_n ?_
          refine hK12 _ _ ?_
          refine wp_plain [true, true, true] rfl rfl ?_
          refine s_move hE rfl rfl ?_; clear hE a; intro a hE
          refine s_bin hE rfl rfl (show Bin _ _ _ _ _ (.int .i64 1) from bin_add (by rw [wrap_i64 (by omega) (by omega)]; omega)) rfl ?_; clear hE a; intro a hE
          refine s_assign hE rfl rfl ?_; clear hE a; intro a hE
          refine q_nil ?_
          replace hE : Env a 57 [(1, _), (2, _), (3, _), (5, _), (6, _), (10, _), (12, _), (33, _), (56, _)] := hE.sel [1, 2, 3, 5, 6, 10, 12, 33, 56] rfl
          replace hM : Mem _ _ w6 [_] := hM.pick [1] rfl
          refine q_then_n ⟨(by first | (simp [slotB, slotZ, hb10, hJ4_0, hJ4_1, hb43, hb51] <;> omega) | (simp_all [slotB, slotZ] <;> omega)), hE.sel [1, 2, 3, 5, 10, 12] rfl, hM⟩
    clear hE hM a; rintro a w5 ⟨hJ10_0, hE, hM⟩
    refine c_roundsJ (fun a w' => slotB h.s1 = true ∧ Env a 57 [(1, .pointer (some ⟨b1, 0, none⟩)), (2, .bool false), (3, .int .i64 2), (5, .int .i64 2), (10, .bool false), (12, .bool false)] ∧ Mem w [] w' [blk b1 [[.int .i64 h.m], [.int .i64 h.r], [.bool h.v0.1], [.int .u64 ((h.v0.2.1 : Nat) : Int)], bv h.v0.2.2.1, bv h.v0.2.2.2, [.bool h.v1.1], [.int .u64 ((h.v1.2.1 : Nat) : Int)], bv h.v1.2.2.1, bv h.v1.2.2.2, [.bool h.s0.1], [.int .i64 h.s0.2.1], bv h.s0.2.2.1, bv h.s0.2.2.2.1, bv h.s0.2.2.2.2, [.bool h.s1.1], [.int .i64 h.s1.2.1], bv h.s1.2.2.1, bv h.s1.2.2.2.1, bv h.s1.2.2.2.2, [.bool h.s2.1], [.int .i64 h.s2.2.1], bv h.s2.2.2.1, bv h.s2.2.2.2.1, bv h.s2.2.2.2.2, [.bool h.s3.1], [.int .i64 h.s3.2.1], bv h.s3.2.2.1, bv h.s3.2.2.2.1, bv h.s3.2.2.2.2] [1, 1, 1, 1, 32, 32, 1, 1, 32, 32, 1, 1, 16, 32, 32, 1, 1, 16, 32, 32, 1, 1, 16, 32, 32, 1, 1, 16, 32, 32] 39]) ?_ ?_
    · skip
      refine wp_seq_k (fun K10 hK10 => ?_)
      refine wp_seq_k (fun K11 hK11 => ?_)
      refine wp_plain [true, true] rfl rfl ?_
      refine s_move hE rfl rfl ?_; clear hE a; intro a hE
      refine s_bin hE rfl rfl bin_lss rfl ?_; clear hE a; intro a hE
      replace hE := hE.cast 33 rfl (show _ = Value.bool true from (congrArg Value.bool (by decide)))
      refine q_nil ?_
      replace hE : Env a 57 [(1, _), (2, _), (3, _), (5, _), (10, _), (12, _), (33, _)] := hE.sel [1, 2, 3, 5, 10, 12, 33] rfl
      refine hK11 _ _ ?_
      refine wp_cond_true (hE.eval rfl) ?_
      refine wp_skip ?_
      refine hK10 _ _ ?_
      refine wp_seq_k (fun K12 hK12 => ?_)
      refine wp_block ?_
      refine wp_seq_k (fun K13 hK13 => ?_)
      refine wp_plain [true, true, true, true, false, false] rfl rfl ?_
      refine s_move hE rfl rfl ?_; clear hE a; intro a hE
      refine s_fieldAddr hE rfl fo39_2 rfl ?_; clear hE a; intro a hE
      refine s_indexArr (j := 1) hE rfl rfl arr37 rfl (by decide) rfl ?_; clear hE a; intro a hE
      refine s_loadN hE rfl (hM.get 0 rfl) row36 rfl (by intro X h; cases h) rfl ?_; clear hE a; intro a hE
      replace hE := hE.cast 39 rfl (show _ = Value.agg ([[.bool h.s1.1], [.int .i64 h.s1.2.1], bv h.s1.2.2.1, bv h.s1.2.2.2.1, bv h.s1.2.2.2.2] : List (List Value)).flatten.toArray from (by first | rfl | simp only [List.flatten_cons, List.flatten_nil, List.append_nil, List.append_assoc]))
      refine s_alloc [1, 1, 16, 32, 32] hE hM zeroL36 rfl rfl ?_; clear hE a; intro a b6 w6 hE hM'
      clear hM; have hM := hM'; clear hM'
      have hsl663_2 : h.s1.2.2.1.length = 16 := hk.s1.2.1
      have hsl663_3 : h.s1.2.2.2.1.length = 32 := hk.s1.2.2.1
      have hsl663_4 : h.s1.2.2.2.2.length = 32 := hk.s1.2.2.2
      refine s_storeSegs 0 5 (vss := [[.bool h.s1.1], [.int .i64 h.s1.2.1], bv h.s1.2.2.1, bv h.s1.2.2.2.1, bv h.s1.2.2.2.2]) hE rfl rfl hM rfl sz36 (by simp only [List.take_succ_cons, List.take_zero, List.drop_zero, List.drop_succ_cons]; simp only [List.map_cons, List.map_nil, bv_length, List.length_cons, List.length_nil, List.length_replicate, hsl663_2, hsl663_3, hsl663_4]) (by decide) rfl (one_fl ⟨one1 rfl, one1 rfl, bv_one _, bv_one _, bv_one _, trivial⟩) rfl (by intro X h; cases h) ?_; intro w7 hM'; clear hM; have hM := hM'; clear hM'
      try simp only [List.take_zero, List.take_succ_cons, List.drop_zero, List.drop_succ_cons, List.take_nil, List.drop_nil, List.nil_append, List.append_nil, List.cons_append] at hM
      refine q_nil ?_
      replace hE : Env a 57 [(1, _), (2, _), (3, _), (5, _), (6, _), (10, _), (12, _), (33, _)] := hE.sel [1, 2, 3, 5, 6, 10, 12, 33] rfl
      refine hK13 _ _ ?_
      refine wp_seq_k (fun K14 hK14 => ?_)
      refine wp_plain [true, true, true, true, true, true, true, true, true, true, true, true, true, true, true, true, true] rfl rfl ?_
      refine s_fieldAddr hE rfl fo36_0 rfl ?_; clear hE a; intro a hE
      refine s_load1 hE rfl (hM.get 0 rfl) rfl one4 (by intro X h; cases h) rfl ?_; clear hE a; intro a hE
      refine s_not hE rfl rfl ?_; clear hE a; intro a hE
      refine s_move hE rfl rfl ?_; clear hE a; intro a hE
      refine hE.split 43 rfl (fun hb43 hE' => ?_) (fun hb43 hE' => ?_)
      · replace hE := hE'; clear hE'
        replace hb43 := not_true hb43
        refine g_yes hE rfl rfl ?_
        refine s_loadN hE rfl (hM.get 0 rfl) row36 rfl (by intro X h; cases h) rfl ?_; clear hE a; intro a hE
        replace hE := hE.cast 44 rfl (show _ = Value.agg ([[.bool h.s1.1], [.int .i64 h.s1.2.1], bv h.s1.2.2.1, bv h.s1.2.2.2.1, bv h.s1.2.2.2.2] : List (List Value)).flatten.toArray from (by first | rfl | simp only [List.flatten_cons, List.flatten_nil, List.append_nil, List.append_assoc]))
        refine g_yes hE rfl rfl ?_
        refine s_buildS [] hE rfl zero36 (by kernel_rfl) fpl36 (by first | (simp [PartsOk, Value.cells]; done) | (simp [PartsOk, Value.cells]; omega)) rfl ?_; clear hE a; intro a hE
        replace hE := hE.cast 45 rfl (show _ = Value.agg ([[.bool false], [.int .i64 0], bv (List.replicate 16 (0 : UInt8)), bv (List.replicate 32 (0 : UInt8)), bv (List.replicate 32 (0 : UInt8))] : List (List Value)).flatten.toArray from (by first | rfl | simp [setAll] | (simp only [setAll, List.set_cons_zero, List.set_cons_succ, List.flatten_cons, List.flatten_nil, List.append_nil, List.append_assoc, List.replicate_succ, List.replicate_zero])))
        refine g_yes hE rfl rfl ?_
        refine s_bin hE rfl rfl ((eqk36 (b := decide (h.s1.1 = false ∧ (h.s1.2.1 : Int) = 0 ∧ h.s1.2.2.1 = (List.replicate 16 (0 : UInt8)) ∧ h.s1.2.2.2.1 = (List.replicate 32 (0 : UInt8)) ∧ h.s1.2.2.2.2 = (List.replicate 32 (0 : UInt8)))) (klL36 (k := 0) (x0 := h.s1.1) (x1 := h.s1.2.1) (x2 := h.s1.2.2.1) (x3 := h.s1.2.2.2.1) (x4 := h.s1.2.2.2.2) (wf_i64 hk.s1.1) hk.s1.2.1 hk.s1.2.2.1 hk.s1.2.2.2) (klL36 (k := 0) (x0 := false) (x1 := 0) (x2 := List.replicate 16 (0 : UInt8)) (x3 := List.replicate 32 (0 : UInt8)) (x4 := List.replicate 32 (0 : UInt8)) (by first | exact wf_i64 (by assumption) | (simp [Lit.wf, IntKind.min, IntKind.max, IntKind.signed, IntKind.bits]; try omega)) List.length_replicate List.length_replicate List.length_replicate) (by rw [flat_eq (by have hl_x2 : h.s1.2.2.1.length = 16 := hk.s1.2.1; have hl_x3 : h.s1.2.2.2.1.length = 32 := hk.s1.2.2.1; have hl_x4 : h.s1.2.2.2.2.length = 32 := hk.s1.2.2.2; have hl_y2 : (List.replicate 16 (0 : UInt8)).length = 16 := List.length_replicate; have hl_y3 : (List.replicate 32 (0 : UInt8)).length = 32 := List.length_replicate; have hl_y4 : (List.replicate 32 (0 : UInt8)).length = 32 := List.length_replicate; simp only [List.map_cons, List.map_nil, bv_length, List.length_cons, List.length_nil, hl_x2, hl_x3, hl_x4, hl_y2, hl_y3, hl_y4])]; simp [bv_iff, Int.ofNat_inj]; try omega)).2) rfl ?_; clear hE a; intro a hE
        refine s_pickt hE rfl rfl rfl ?_; clear hE a; intro a hE
        refine s_move hE rfl rfl ?_; clear hE a; intro a hE
        refine hE.split 48 rfl (fun hb48 hE' => ?_) (fun hb48 hE' => ?_)
        · replace hE := hE'; clear hE'
          replace hb48 := of_decide_eq_false (not_true hb48)
          refine g_no (b := true) hE rfl rfl rfl ?_; clear hE a; intro a hE
          refine g_no (b := true) hE rfl rfl rfl ?_; clear hE a; intro a hE
          refine g_no (b := true) hE rfl rfl rfl ?_; clear hE a; intro a hE
          refine g_und hE rfl rfl rfl ?_; clear hE a; intro a hE
          refine g_und hE rfl rfl rfl ?_; clear hE a; intro a hE
          refine g_und hE rfl rfl rfl ?_; clear hE a; intro a hE
          refine g_no (b := true) hE rfl rfl rfl ?_; clear hE a; intro a hE
          refine s_pickt hE rfl rfl rfl ?_; clear hE a; intro a hE
          refine q_nil ?_
          replace hE : Env a 57 [(1, _), (2, _), (3, _), (5, _), (6, _), (10, _), (12, _), (33, _), (56, _)] := hE.sel [1, 2, 3, 5, 6, 10, 12, 33, 56] rfl
          refine hK14 _ _ ?_
          refine wp_cond_true (hE.eval rfl) ?_
          refine wp_seq_k (fun K15 hK15 => ?_)
          refine wp_plain [true] rfl rfl ?_
          refine s_assign hE rfl rfl ?_; clear hE a; intro a hE
          refine q_nil ?_
          refine hK15 _ _ ?_
          refine wp_ret ?_
          refine q_block_r ?_
          refine q_then_r ?_
          refine q_then_r ?_
          refine q_block_r ?_
          refine q_then_r ?_
          refine f_ret1 hE rfl rfl ?_
          exact ⟨(by have hv : slotB h.s1 = false := (by first | (simp [slotB, slotZ, hb43, hb48] <;> omega) | (simp_all [slotB, slotZ] <;> omega)); simp [shapedB, hv]), hM.pick [] rfl⟩
        · replace hE := hE'; clear hE'
          replace hb48 := of_decide_eq_true (not_false' hb48)
          refine g_yes hE rfl rfl ?_
          refine s_fieldAddr hE rfl fo36_0 rfl ?_; clear hE a; intro a hE
          refine g_yes hE rfl rfl ?_
          refine s_load1 hE rfl (hM.get 0 rfl) rfl one4 (by intro X h; cases h) rfl ?_; clear hE a; intro a hE
          refine g_yes hE rfl rfl ?_
          refine s_move hE rfl rfl ?_; clear hE a; intro a hE
          refine hE.split 51 rfl (fun hb51 hE' => ?_) (fun hb51 hE' => ?_)
          · replace hE := hE'; clear hE'
            refine g_yes hE rfl rfl ?_
            refine s_fieldAddr hE rfl fo36_1 rfl ?_; clear hE a; intro a hE
            refine g_yes hE rfl rfl ?_
            refine s_load1 hE rfl (hM.get 0 rfl) rfl one3 (by intro X h; cases h) rfl ?_; clear hE a; intro a hE
            refine g_yes hE rfl rfl ?_
            refine s_bin hE rfl rfl bin_lss rfl ?_; clear hE a; intro a hE
            refine g_yes hE rfl rfl ?_
            refine s_pickt hE rfl rfl rfl ?_; clear hE a; intro a hE
            refine s_pickf hE rfl rfl rfl ?_; clear hE a; intro a hE
            refine q_nil ?_
            replace hE : Env a 57 [(1, _), (2, _), (3, _), (5, _), (6, _), (10, _), (12, _), (33, _), (56, _)] := hE.sel [1, 2, 3, 5, 6, 10, 12, 33, 56] rfl
            refine hK14 _ _ ?_
            refine hE.split 56 rfl (fun hb56 hE' => ?_) (fun hb56 hE' => ?_)
            · replace hE := hE'; clear hE'
              replace hb56 := of_decide_eq_true hb56
              refine wp_cond_true (hE.eval rfl) ?_
              refine wp_seq_k (fun K15 hK15 => ?_)
              refine wp_plain [true] rfl rfl ?_
              refine s_assign hE rfl rfl ?_; clear hE a; intro a hE
              refine q_nil ?_
              refine hK15 _ _ ?_
              refine wp_ret ?_
              refine q_block_r ?_
              refine q_then_r ?_
              refine q_then_r ?_
              refine q_block_r ?_
              refine q_then_r ?_
              refine f_ret1 hE rfl rfl ?_
              exact ⟨(by have hv : slotB h.s1 = false := (by first | (simp [slotB, slotZ, hb43, hb48, hb51, hb56] <;> omega) | (simp_all [slotB, slotZ] <;> omega)); simp [shapedB, hv]), hM.pick [] rfl⟩
            · replace hE := hE'; clear hE'
              replace hb56 := of_decide_eq_false hb56
              refine wp_cond_false (hE.eval rfl) ?_
              refine wp_skip ?_
              refine q_block_n ?_
              refine hK12 _ _ ?_
              refine wp_plain [true, true, true] rfl rfl ?_
              refine s_move hE rfl rfl ?_; clear hE a; intro a hE
              refine s_bin hE rfl rfl (show Bin _ _ _ _ _ (.int .i64 2) from bin_add (by rw [wrap_i64 (by omega) (by omega)]; omega)) rfl ?_; clear hE a; intro a hE
              refine s_assign hE rfl rfl ?_; clear hE a; intro a hE
              refine q_nil ?_
              replace hE : Env a 57 [(1, _), (2, _), (3, _), (5, _), (6, _), (10, _), (12, _), (33, _), (56, _)] := hE.sel [1, 2, 3, 5, 6, 10, 12, 33, 56] rfl
              replace hM : Mem _ _ w7 [_] := hM.pick [1] rfl
              refine q_then_n ⟨(by first | (simp [slotB, slotZ, hb10, hJ4_0, hJ4_1, hJ10_0, hb43, hb48, hb51, hb56] <;> omega) | (simp_all [slotB, slotZ] <;> omega)), hE.sel [1, 2, 3, 5, 10, 12] rfl, hM⟩
          · replace hE := hE'; clear hE'
            refine g_no (b := false) hE rfl rfl rfl ?_; clear hE a; intro a hE
            refine g_no (b := false) hE rfl rfl rfl ?_; clear hE a; intro a hE
            refine g_no (b := false) hE rfl rfl rfl ?_; clear hE a; intro a hE
            refine g_yes hE rfl rfl ?_
            refine s_pickf hE rfl rfl rfl ?_; clear hE a; intro a hE
            refine s_pickf hE rfl rfl rfl ?_; clear hE a; intro a hE
            refine q_nil ?_
            replace hE : Env a 57 [(1, _), (2, _), (3, _), (5, _), (6, _), (10, _), (12, _), (33, _), (56, _)] := hE.sel [1, 2, 3, 5, 6, 10, 12, 33, 56] rfl
            refine hK14 _ _ ?_
            refine wp_cond_false (hE.eval rfl) ?_
            refine wp_skip ?_
            refine q_block_n ?_
            refine hK12 _ _ ?_
            refine wp_plain [true, true, true] rfl rfl ?_
            refine s_move hE rfl rfl ?_; clear hE a; intro a hE
            refine s_bin hE rfl rfl (show Bin _ _ _ _ _ (.int .i64 2) from bin_add (by rw [wrap_i64 (by omega) (by omega)]; omega)) rfl ?_; clear hE a; intro a hE
            refine s_assign hE rfl rfl ?_; clear hE a; intro a hE
            refine q_nil ?_
            replace hE : Env a 57 [(1, _), (2, _), (3, _), (5, _), (6, _), (10, _), (12, _), (33, _), (56, _)] := hE.sel [1, 2, 3, 5, 6, 10, 12, 33, 56] rfl
            replace hM : Mem _ _ w7 [_] := hM.pick [1] rfl
            refine q_then_n ⟨(by first | (simp [slotB, slotZ, hb10, hJ4_0, hJ4_1, hJ10_0, hb43, hb48, hb51] <;> omega) | (simp_all [slotB, slotZ] <;> omega)), hE.sel [1, 2, 3, 5, 10, 12] rfl, hM⟩
      · replace hE := hE'; clear hE'
        replace hb43 := not_false' hb43
        refine g_no (b := false) hE rfl rfl rfl ?_; clear hE a; intro a hE
        refine g_no (b := false) hE rfl rfl rfl ?_; clear hE a; intro a hE
        refine g_no (b := false) hE rfl rfl rfl ?_; clear hE a; intro a hE
        refine s_pickf hE rfl rfl rfl ?_; clear hE a; intro a hE
        refine s_move hE rfl rfl ?_; clear hE a; intro a hE
        refine g_yes hE rfl rfl ?_
        refine s_fieldAddr hE rfl fo36_0 rfl ?_; clear hE a; intro a hE
        refine g_yes hE rfl rfl ?_
        refine s_load1 hE rfl (hM.get 0 rfl) rfl one4 (by intro X h; cases h) rfl ?_; clear hE a; intro a hE
        refine g_yes hE rfl rfl ?_
        refine s_move hE rfl rfl ?_; clear hE a; intro a hE
        refine hE.split 51 rfl (fun hb51 hE' => ?_) (fun hb51 hE' => ?_)
        · replace hE := hE'; clear hE'
          refine g_yes hE rfl rfl ?_
          refine s_fieldAddr hE rfl fo36_1 rfl ?_; clear hE a; intro a hE
          refine g_yes hE rfl rfl ?_
          refine s_load1 hE rfl (hM.get 0 rfl) rfl one3 (by intro X h; cases h) rfl ?_; clear hE a; intro a hE
          refine g_yes hE rfl rfl ?_
          refine s_bin hE rfl rfl bin_lss rfl ?_; clear hE a; intro a hE
          refine g_yes hE rfl rfl ?_
          refine s_pickt hE rfl rfl rfl ?_; clear hE a; intro a hE
          refine s_pickf hE rfl rfl rfl ?_; clear hE a; intro a hE
          refine q_nil ?_
          replace hE : Env a 57 [(1, _), (2, _), (3, _), (5, _), (6, _), (10, _), (12, _), (33, _), (56, _)] := hE.sel [1, 2, 3, 5, 6, 10, 12, 33, 56] rfl
          refine hK14 _ _ ?_
          refine hE.split 56 rfl (fun hb56 hE' => ?_) (fun hb56 hE' => ?_)
          · replace hE := hE'; clear hE'
            replace hb56 := of_decide_eq_true hb56
            refine wp_cond_true (hE.eval rfl) ?_
            refine wp_seq_k (fun K15 hK15 => ?_)
            refine wp_plain [true] rfl rfl ?_
            refine s_assign hE rfl rfl ?_; clear hE a; intro a hE
            refine q_nil ?_
            refine hK15 _ _ ?_
            refine wp_ret ?_
            refine q_block_r ?_
            refine q_then_r ?_
            refine q_then_r ?_
            refine q_block_r ?_
            refine q_then_r ?_
            refine f_ret1 hE rfl rfl ?_
            exact ⟨(by have hv : slotB h.s1 = false := (by first | (simp [slotB, slotZ, hb43, hb51, hb56] <;> omega) | (simp_all [slotB, slotZ] <;> omega)); simp [shapedB, hv]), hM.pick [] rfl⟩
          · replace hE := hE'; clear hE'
            replace hb56 := of_decide_eq_false hb56
            refine wp_cond_false (hE.eval rfl) ?_
            refine wp_skip ?_
            refine q_block_n ?_
            refine hK12 _ _ ?_
            refine wp_plain [true, true, true] rfl rfl ?_
            refine s_move hE rfl rfl ?_; clear hE a; intro a hE
            refine s_bin hE rfl rfl (show Bin _ _ _ _ _ (.int .i64 2) from bin_add (by rw [wrap_i64 (by omega) (by omega)]; omega)) rfl ?_; clear hE a; intro a hE
            refine s_assign hE rfl rfl ?_; clear hE a; intro a hE
            refine q_nil ?_
            replace hE : Env a 57 [(1, _), (2, _), (3, _), (5, _), (6, _), (10, _), (12, _), (33, _), (56, _)] := hE.sel [1, 2, 3, 5, 6, 10, 12, 33, 56] rfl
            replace hM : Mem _ _ w7 [_] := hM.pick [1] rfl
            refine q_then_n ⟨(by first | (simp [slotB, slotZ, hb10, hJ4_0, hJ4_1, hJ10_0, hb43, hb51, hb56] <;> omega) | (simp_all [slotB, slotZ] <;> omega)), hE.sel [1, 2, 3, 5, 10, 12] rfl, hM⟩
        · replace hE := hE'; clear hE'
          refine g_no (b := false) hE rfl rfl rfl ?_; clear hE a; intro a hE
          refine g_no (b := false) hE rfl rfl rfl ?_; clear hE a; intro a hE
          refine g_no (b := false) hE rfl rfl rfl ?_; clear hE a; intro a hE
          refine g_yes hE rfl rfl ?_
          refine s_pickf hE rfl rfl rfl ?_; clear hE a; intro a hE
          refine s_pickf hE rfl rfl rfl ?_; clear hE a; intro a hE
          refine q_nil ?_
          replace hE : Env a 57 [(1, _), (2, _), (3, _), (5, _), (6, _), (10, _), (12, _), (33, _), (56, _)] := hE.sel [1, 2, 3, 5, 6, 10, 12, 33, 56] rfl
          refine hK14 _ _ ?_
          refine wp_cond_false (hE.eval rfl) ?_
          refine wp_skip ?_
          refine q_block_n ?_
          refine hK12 _ _ ?_
          refine wp_plain [true, true, true] rfl rfl ?_
          refine s_move hE rfl rfl ?_; clear hE a; intro a hE
          refine s_bin hE rfl rfl (show Bin _ _ _ _ _ (.int .i64 2) from bin_add (by rw [wrap_i64 (by omega) (by omega)]; omega)) rfl ?_; clear hE a; intro a hE
          refine s_assign hE rfl rfl ?_; clear hE a; intro a hE
          refine q_nil ?_
          replace hE : Env a 57 [(1, _), (2, _), (3, _), (5, _), (6, _), (10, _), (12, _), (33, _), (56, _)] := hE.sel [1, 2, 3, 5, 6, 10, 12, 33, 56] rfl
          replace hM : Mem _ _ w7 [_] := hM.pick [1] rfl
          refine q_then_n ⟨(by first | (simp [slotB, slotZ, hb10, hJ4_0, hJ4_1, hJ10_0, hb43, hb51] <;> omega) | (simp_all [slotB, slotZ] <;> omega)), hE.sel [1, 2, 3, 5, 10, 12] rfl, hM⟩
    clear hE hM a; rintro a w6 ⟨hJ10_1, hE, hM⟩
    refine c_roundsJ (fun a w' => slotB h.s2 = true ∧ Env a 57 [(1, .pointer (some ⟨b1, 0, none⟩)), (2, .bool false), (3, .int .i64 2), (5, .int .i64 3), (10, .bool false), (12, .bool false)] ∧ Mem w [] w' [blk b1 [[.int .i64 h.m], [.int .i64 h.r], [.bool h.v0.1], [.int .u64 ((h.v0.2.1 : Nat) : Int)], bv h.v0.2.2.1, bv h.v0.2.2.2, [.bool h.v1.1], [.int .u64 ((h.v1.2.1 : Nat) : Int)], bv h.v1.2.2.1, bv h.v1.2.2.2, [.bool h.s0.1], [.int .i64 h.s0.2.1], bv h.s0.2.2.1, bv h.s0.2.2.2.1, bv h.s0.2.2.2.2, [.bool h.s1.1], [.int .i64 h.s1.2.1], bv h.s1.2.2.1, bv h.s1.2.2.2.1, bv h.s1.2.2.2.2, [.bool h.s2.1], [.int .i64 h.s2.2.1], bv h.s2.2.2.1, bv h.s2.2.2.2.1, bv h.s2.2.2.2.2, [.bool h.s3.1], [.int .i64 h.s3.2.1], bv h.s3.2.2.1, bv h.s3.2.2.2.1, bv h.s3.2.2.2.2] [1, 1, 1, 1, 32, 32, 1, 1, 32, 32, 1, 1, 16, 32, 32, 1, 1, 16, 32, 32, 1, 1, 16, 32, 32, 1, 1, 16, 32, 32] 39]) ?_ ?_
    · skip
      refine wp_seq_k (fun K10 hK10 => ?_)
      refine wp_seq_k (fun K11 hK11 => ?_)
      refine wp_plain [true, true] rfl rfl ?_
      refine s_move hE rfl rfl ?_; clear hE a; intro a hE
      refine s_bin hE rfl rfl bin_lss rfl ?_; clear hE a; intro a hE
      replace hE := hE.cast 33 rfl (show _ = Value.bool true from (congrArg Value.bool (by decide)))
      refine q_nil ?_
      replace hE : Env a 57 [(1, _), (2, _), (3, _), (5, _), (10, _), (12, _), (33, _)] := hE.sel [1, 2, 3, 5, 10, 12, 33] rfl
      refine hK11 _ _ ?_
      refine wp_cond_true (hE.eval rfl) ?_
      refine wp_skip ?_
      refine hK10 _ _ ?_
      refine wp_seq_k (fun K12 hK12 => ?_)
      refine wp_block ?_
      refine wp_seq_k (fun K13 hK13 => ?_)
      refine wp_plain [true, true, true, true, false, false] rfl rfl ?_
      refine s_move hE rfl rfl ?_; clear hE a; intro a hE
      refine s_fieldAddr hE rfl fo39_2 rfl ?_; clear hE a; intro a hE
      refine s_indexArr (j := 2) hE rfl rfl arr37 rfl (by decide) rfl ?_; clear hE a; intro a hE
      refine s_loadN hE rfl (hM.get 0 rfl) row36 rfl (by intro X h; cases h) rfl ?_; clear hE a; intro a hE
      replace hE := hE.cast 39 rfl (show _ = Value.agg ([[.bool h.s2.1], [.int .i64 h.s2.2.1], bv h.s2.2.2.1, bv h.s2.2.2.2.1, bv h.s2.2.2.2.2] : List (List Value)).flatten.toArray from (by first | rfl | simp only [List.flatten_cons, List.flatten_nil, List.append_nil, List.append_assoc]))
      refine s_alloc [1, 1, 16, 32, 32] hE hM zeroL36 rfl rfl ?_; clear hE a; intro a b6 w7 hE hM'
      clear hM; have hM := hM'; clear hM'
      have hsl899_2 : h.s2.2.2.1.length = 16 := hk.s2.2.1
      have hsl899_3 : h.s2.2.2.2.1.length = 32 := hk.s2.2.2.1
      have hsl899_4 : h.s2.2.2.2.2.length = 32 := hk.s2.2.2.2
      refine s_storeSegs 0 5 (vss := [[.bool h.s2.1], [.int .i64 h.s2.2.1], bv h.s2.2.2.1, bv h.s2.2.2.2.1, bv h.s2.2.2.2.2]) hE rfl rfl hM rfl sz36 (by simp only [List.take_succ_cons, List.take_zero, List.drop_zero, List.drop_succ_cons]; simp only [List.map_cons, List.map_nil, bv_length, List.length_cons, List.length_nil, List.length_replicate, hsl899_2, hsl899_3, hsl899_4]) (by decide) rfl (one_fl ⟨one1 rfl, one1 rfl, bv_one _, bv_one _, bv_one _, trivial⟩) rfl (by intro X h; cases h) ?_; intro w8 hM'; clear hM; have hM := hM'; clear hM'
      try simp only [List.take_zero, List.take_succ_cons, List.drop_zero, List.drop_succ_cons, List.take_nil, List.drop_nil, List.nil_append, List.append_nil, List.cons_append] at hM
      refine q_nil ?_
      replace hE : Env a 57 [(1, _), (2, _), (3, _), (5, _), (6, _), (10, _), (12, _), (33, _)] := hE.sel [1, 2, 3, 5, 6, 10, 12, 33] rfl
      refine hK13 _ _ ?_
      refine wp_seq_k (fun K14 hK14 => ?_)
      refine wp_plain [true, true, true, true, true, true, true, true, true, true, true, true, true, true, true, true, true] rfl rfl ?_
      refine s_fieldAddr hE rfl fo36_0 rfl ?_; clear hE a; intro a hE
      refine s_load1 hE rfl (hM.get 0 rfl) rfl one4 (by intro X h; cases h) rfl ?_; clear hE a; intro a hE
      refine s_not hE rfl rfl ?_; clear hE a; intro a hE
      refine s_move hE rfl rfl ?_; clear hE a; intro a hE
      refine hE.split 43 rfl (fun hb43 hE' => ?_) (fun hb43 hE' => ?_)
      · replace hE := hE'; clear hE'
        replace hb43 := not_true hb43
        refine g_yes hE rfl rfl ?_
        refine s_loadN hE rfl (hM.get 0 rfl) row36 rfl (by intro X h; cases h) rfl ?_; clear hE a; intro a hE
        replace hE := hE.cast 44 rfl (show _ = Value.agg ([[.bool h.s2.1], [.int .i64 h.s2.2.1], bv h.s2.2.2.1, bv h.s2.2.2.2.1, bv h.s2.2.2.2.2] : List (List Value)).flatten.toArray from (by first | rfl | simp only [List.flatten_cons, List.flatten_nil, List.append_nil, List.append_assoc]))
        refine g_yes hE rfl rfl ?_
        refine s_buildS [] hE rfl zero36 (by kernel_rfl) fpl36 (by first | (simp [PartsOk, Value.cells]; done) | (simp [PartsOk, Value.cells]; omega)) rfl ?_; clear hE a; intro a hE
        replace hE := hE.cast 45 rfl (show _ = Value.agg ([[.bool false], [.int .i64 0], bv (List.replicate 16 (0 : UInt8)), bv (List.replicate 32 (0 : UInt8)), bv (List.replicate 32 (0 : UInt8))] : List (List Value)).flatten.toArray from (by first | rfl | simp [setAll] | (simp only [setAll, List.set_cons_zero, List.set_cons_succ, List.flatten_cons, List.flatten_nil, List.append_nil, List.append_assoc, List.replicate_succ, List.replicate_zero])))
        refine g_yes hE rfl rfl ?_
        refine s_bin hE rfl rfl ((eqk36 (b := decide (h.s2.1 = false ∧ (h.s2.2.1 : Int) = 0 ∧ h.s2.2.2.1 = (List.replicate 16 (0 : UInt8)) ∧ h.s2.2.2.2.1 = (List.replicate 32 (0 : UInt8)) ∧ h.s2.2.2.2.2 = (List.replicate 32 (0 : UInt8)))) (klL36 (k := 0) (x0 := h.s2.1) (x1 := h.s2.2.1) (x2 := h.s2.2.2.1) (x3 := h.s2.2.2.2.1) (x4 := h.s2.2.2.2.2) (wf_i64 hk.s2.1) hk.s2.2.1 hk.s2.2.2.1 hk.s2.2.2.2) (klL36 (k := 0) (x0 := false) (x1 := 0) (x2 := List.replicate 16 (0 : UInt8)) (x3 := List.replicate 32 (0 : UInt8)) (x4 := List.replicate 32 (0 : UInt8)) (by first | exact wf_i64 (by assumption) | (simp [Lit.wf, IntKind.min, IntKind.max, IntKind.signed, IntKind.bits]; try omega)) List.length_replicate List.length_replicate List.length_replicate) (by rw [flat_eq (by have hl_x2 : h.s2.2.2.1.length = 16 := hk.s2.2.1; have hl_x3 : h.s2.2.2.2.1.length = 32 := hk.s2.2.2.1; have hl_x4 : h.s2.2.2.2.2.length = 32 := hk.s2.2.2.2; have hl_y2 : (List.replicate 16 (0 : UInt8)).length = 16 := List.length_replicate; have hl_y3 : (List.replicate 32 (0 : UInt8)).length = 32 := List.length_replicate; have hl_y4 : (List.replicate 32 (0 : UInt8)).length = 32 := List.length_replicate; simp only [List.map_cons, List.map_nil, bv_length, List.length_cons, List.length_nil, hl_x2, hl_x3, hl_x4, hl_y2, hl_y3, hl_y4])]; simp [bv_iff, Int.ofNat_inj]; try omega)).2) rfl ?_; clear hE a; intro a hE
        refine s_pickt hE rfl rfl rfl ?_; clear hE a; intro a hE
        refine s_move hE rfl rfl ?_; clear hE a; intro a hE
        refine hE.split 48 rfl (fun hb48 hE' => ?_) (fun hb48 hE' => ?_)
        · replace hE := hE'; clear hE'
          replace hb48 := of_decide_eq_false (not_true hb48)
          refine g_no (b := true) hE rfl rfl rfl ?_; clear hE a; intro a hE
          refine g_no (b := true) hE rfl rfl rfl ?_; clear hE a; intro a hE
          refine g_no (b := true) hE rfl rfl rfl ?_; clear hE a; intro a hE
          refine g_und hE rfl rfl rfl ?_; clear hE a; intro a hE
          refine g_und hE rfl rfl rfl ?_; clear hE a; intro a hE
          refine g_und hE rfl rfl rfl ?_; clear hE a; intro a hE
          refine g_no (b := true) hE rfl rfl rfl ?_; clear hE a; intro a hE
          refine s_pickt hE rfl rfl rfl ?_; clear hE a; intro a hE
          refine q_nil ?_
          replace hE : Env a 57 [(1, _), (2, _), (3, _), (5, _), (6, _), (10, _), (12, _), (33, _), (56, _)] := hE.sel [1, 2, 3, 5, 6, 10, 12, 33, 56] rfl
          refine hK14 _ _ ?_
          refine wp_cond_true (hE.eval rfl) ?_
          refine wp_seq_k (fun K15 hK15 => ?_)
          refine wp_plain [true] rfl rfl ?_
          refine s_assign hE rfl rfl ?_; clear hE a; intro a hE
          refine q_nil ?_
          refine hK15 _ _ ?_
          refine wp_ret ?_
          refine q_block_r ?_
          refine q_then_r ?_
          refine q_then_r ?_
          refine q_block_r ?_
          refine q_then_r ?_
          refine f_ret1 hE rfl rfl ?_
          exact ⟨(by have hv : slotB h.s2 = false := (by first | (simp [slotB, slotZ, hb43, hb48] <;> omega) | (simp_all [slotB, slotZ] <;> omega)); simp [shapedB, hv]), hM.pick [] rfl⟩
        · replace hE := hE'; clear hE'
          replace hb48 := of_decide_eq_true (not_false' hb48)
          refine g_yes hE rfl rfl ?_
          refine s_fieldAddr hE rfl fo36_0 rfl ?_; clear hE a; intro a hE
          refine g_yes hE rfl rfl ?_
          refine s_load1 hE rfl (hM.get 0 rfl) rfl one4 (by intro X h; cases h) rfl ?_; clear hE a; intro a hE
          refine g_yes hE rfl rfl ?_
          refine s_move hE rfl rfl ?_; clear hE a; intro a hE
          refine hE.split 51 rfl (fun hb51 hE' => ?_) (fun hb51 hE' => ?_)
          · replace hE := hE'; clear hE'
            refine g_yes hE rfl rfl ?_
            refine s_fieldAddr hE rfl fo36_1 rfl ?_; clear hE a; intro a hE
            refine g_yes hE rfl rfl ?_
            refine s_load1 hE rfl (hM.get 0 rfl) rfl one3 (by intro X h; cases h) rfl ?_; clear hE a; intro a hE
            refine g_yes hE rfl rfl ?_
            refine s_bin hE rfl rfl bin_lss rfl ?_; clear hE a; intro a hE
            refine g_yes hE rfl rfl ?_
            refine s_pickt hE rfl rfl rfl ?_; clear hE a; intro a hE
            refine s_pickf hE rfl rfl rfl ?_; clear hE a; intro a hE
            refine q_nil ?_
            replace hE : Env a 57 [(1, _), (2, _), (3, _), (5, _), (6, _), (10, _), (12, _), (33, _), (56, _)] := hE.sel [1, 2, 3, 5, 6, 10, 12, 33, 56] rfl
            refine hK14 _ _ ?_
            refine hE.split 56 rfl (fun hb56 hE' => ?_) (fun hb56 hE' => ?_)
            · replace hE := hE'; clear hE'
              replace hb56 := of_decide_eq_true hb56
              refine wp_cond_true (hE.eval rfl) ?_
              refine wp_seq_k (fun K15 hK15 => ?_)
              refine wp_plain [true] rfl rfl ?_
              refine s_assign hE rfl rfl ?_; clear hE a; intro a hE
              refine q_nil ?_
              refine hK15 _ _ ?_
              refine wp_ret ?_
              refine q_block_r ?_
              refine q_then_r ?_
              refine q_then_r ?_
              refine q_block_r ?_
              refine q_then_r ?_
              refine f_ret1 hE rfl rfl ?_
              exact ⟨(by have hv : slotB h.s2 = false := (by first | (simp [slotB, slotZ, hb43, hb48, hb51, hb56] <;> omega) | (simp_all [slotB, slotZ] <;> omega)); simp [shapedB, hv]), hM.pick [] rfl⟩
            · replace hE := hE'; clear hE'
              replace hb56 := of_decide_eq_false hb56
              refine wp_cond_false (hE.eval rfl) ?_
              refine wp_skip ?_
              refine q_block_n ?_
              refine hK12 _ _ ?_
              refine wp_plain [true, true, true] rfl rfl ?_
              refine s_move hE rfl rfl ?_; clear hE a; intro a hE
              refine s_bin hE rfl rfl (show Bin _ _ _ _ _ (.int .i64 3) from bin_add (by rw [wrap_i64 (by omega) (by omega)]; omega)) rfl ?_; clear hE a; intro a hE
              refine s_assign hE rfl rfl ?_; clear hE a; intro a hE
              refine q_nil ?_
              replace hE : Env a 57 [(1, _), (2, _), (3, _), (5, _), (6, _), (10, _), (12, _), (33, _), (56, _)] := hE.sel [1, 2, 3, 5, 6, 10, 12, 33, 56] rfl
              replace hM : Mem _ _ w8 [_] := hM.pick [1] rfl
              refine q_then_n ⟨(by first | (simp [slotB, slotZ, hb10, hJ4_0, hJ4_1, hJ10_0, hJ10_1, hb43, hb48, hb51, hb56] <;> omega) | (simp_all [slotB, slotZ] <;> omega)), hE.sel [1, 2, 3, 5, 10, 12] rfl, hM⟩
          · replace hE := hE'; clear hE'
            refine g_no (b := false) hE rfl rfl rfl ?_; clear hE a; intro a hE
            refine g_no (b := false) hE rfl rfl rfl ?_; clear hE a; intro a hE
            refine g_no (b := false) hE rfl rfl rfl ?_; clear hE a; intro a hE
            refine g_yes hE rfl rfl ?_
            refine s_pickf hE rfl rfl rfl ?_; clear hE a; intro a hE
            refine s_pickf hE rfl rfl rfl ?_; clear hE a; intro a hE
            refine q_nil ?_
            replace hE : Env a 57 [(1, _), (2, _), (3, _), (5, _), (6, _), (10, _), (12, _), (33, _), (56, _)] := hE.sel [1, 2, 3, 5, 6, 10, 12, 33, 56] rfl
            refine hK14 _ _ ?_
            refine wp_cond_false (hE.eval rfl) ?_
            refine wp_skip ?_
            refine q_block_n ?_
            refine hK12 _ _ ?_
            refine wp_plain [true, true, true] rfl rfl ?_
            refine s_move hE rfl rfl ?_; clear hE a; intro a hE
            refine s_bin hE rfl rfl (show Bin _ _ _ _ _ (.int .i64 3) from bin_add (by rw [wrap_i64 (by omega) (by omega)]; omega)) rfl ?_; clear hE a; intro a hE
            refine s_assign hE rfl rfl ?_; clear hE a; intro a hE
            refine q_nil ?_
            replace hE : Env a 57 [(1, _), (2, _), (3, _), (5, _), (6, _), (10, _), (12, _), (33, _), (56, _)] := hE.sel [1, 2, 3, 5, 6, 10, 12, 33, 56] rfl
            replace hM : Mem _ _ w8 [_] := hM.pick [1] rfl
            refine q_then_n ⟨(by first | (simp [slotB, slotZ, hb10, hJ4_0, hJ4_1, hJ10_0, hJ10_1, hb43, hb48, hb51] <;> omega) | (simp_all [slotB, slotZ] <;> omega)), hE.sel [1, 2, 3, 5, 10, 12] rfl, hM⟩
      · replace hE := hE'; clear hE'
        replace hb43 := not_false' hb43
        refine g_no (b := false) hE rfl rfl rfl ?_; clear hE a; intro a hE
        refine g_no (b := false) hE rfl rfl rfl ?_; clear hE a; intro a hE
        refine g_no (b := false) hE rfl rfl rfl ?_; clear hE a; intro a hE
        refine s_pickf hE rfl rfl rfl ?_; clear hE a; intro a hE
        refine s_move hE rfl rfl ?_; clear hE a; intro a hE
        refine g_yes hE rfl rfl ?_
        refine s_fieldAddr hE rfl fo36_0 rfl ?_; clear hE a; intro a hE
        refine g_yes hE rfl rfl ?_
        refine s_load1 hE rfl (hM.get 0 rfl) rfl one4 (by intro X h; cases h) rfl ?_; clear hE a; intro a hE
        refine g_yes hE rfl rfl ?_
        refine s_move hE rfl rfl ?_; clear hE a; intro a hE
        refine hE.split 51 rfl (fun hb51 hE' => ?_) (fun hb51 hE' => ?_)
        · replace hE := hE'; clear hE'
          refine g_yes hE rfl rfl ?_
          refine s_fieldAddr hE rfl fo36_1 rfl ?_; clear hE a; intro a hE
          refine g_yes hE rfl rfl ?_
          refine s_load1 hE rfl (hM.get 0 rfl) rfl one3 (by intro X h; cases h) rfl ?_; clear hE a; intro a hE
          refine g_yes hE rfl rfl ?_
          refine s_bin hE rfl rfl bin_lss rfl ?_; clear hE a; intro a hE
          refine g_yes hE rfl rfl ?_
          refine s_pickt hE rfl rfl rfl ?_; clear hE a; intro a hE
          refine s_pickf hE rfl rfl rfl ?_; clear hE a; intro a hE
          refine q_nil ?_
          replace hE : Env a 57 [(1, _), (2, _), (3, _), (5, _), (6, _), (10, _), (12, _), (33, _), (56, _)] := hE.sel [1, 2, 3, 5, 6, 10, 12, 33, 56] rfl
          refine hK14 _ _ ?_
          refine hE.split 56 rfl (fun hb56 hE' => ?_) (fun hb56 hE' => ?_)
          · replace hE := hE'; clear hE'
            replace hb56 := of_decide_eq_true hb56
            refine wp_cond_true (hE.eval rfl) ?_
            refine wp_seq_k (fun K15 hK15 => ?_)
            refine wp_plain [true] rfl rfl ?_
            refine s_assign hE rfl rfl ?_; clear hE a; intro a hE
            refine q_nil ?_
            refine hK15 _ _ ?_
            refine wp_ret ?_
            refine q_block_r ?_
            refine q_then_r ?_
            refine q_then_r ?_
            refine q_block_r ?_
            refine q_then_r ?_
            refine f_ret1 hE rfl rfl ?_
            exact ⟨(by have hv : slotB h.s2 = false := (by first | (simp [slotB, slotZ, hb43, hb51, hb56] <;> omega) | (simp_all [slotB, slotZ] <;> omega)); simp [shapedB, hv]), hM.pick [] rfl⟩
          · replace hE := hE'; clear hE'
            replace hb56 := of_decide_eq_false hb56
            refine wp_cond_false (hE.eval rfl) ?_
            refine wp_skip ?_
            refine q_block_n ?_
            refine hK12 _ _ ?_
            refine wp_plain [true, true, true] rfl rfl ?_
            refine s_move hE rfl rfl ?_; clear hE a; intro a hE
            refine s_bin hE rfl rfl (show Bin _ _ _ _ _ (.int .i64 3) from bin_add (by rw [wrap_i64 (by omega) (by omega)]; omega)) rfl ?_; clear hE a; intro a hE
            refine s_assign hE rfl rfl ?_; clear hE a; intro a hE
            refine q_nil ?_
            replace hE : Env a 57 [(1, _), (2, _), (3, _), (5, _), (6, _), (10, _), (12, _), (33, _), (56, _)] := hE.sel [1, 2, 3, 5, 6, 10, 12, 33, 56] rfl
            replace hM : Mem _ _ w8 [_] := hM.pick [1] rfl
            refine q_then_n ⟨(by first | (simp [slotB, slotZ, hb10, hJ4_0, hJ4_1, hJ10_0, hJ10_1, hb43, hb51, hb56] <;> omega) | (simp_all [slotB, slotZ] <;> omega)), hE.sel [1, 2, 3, 5, 10, 12] rfl, hM⟩
        · replace hE := hE'; clear hE'
          refine g_no (b := false) hE rfl rfl rfl ?_; clear hE a; intro a hE
          refine g_no (b := false) hE rfl rfl rfl ?_; clear hE a; intro a hE
          refine g_no (b := false) hE rfl rfl rfl ?_; clear hE a; intro a hE
          refine g_yes hE rfl rfl ?_
          refine s_pickf hE rfl rfl rfl ?_; clear hE a; intro a hE
          refine s_pickf hE rfl rfl rfl ?_; clear hE a; intro a hE
          refine q_nil ?_
          replace hE : Env a 57 [(1, _), (2, _), (3, _), (5, _), (6, _), (10, _), (12, _), (33, _), (56, _)] := hE.sel [1, 2, 3, 5, 6, 10, 12, 33, 56] rfl
          refine hK14 _ _ ?_
          refine wp_cond_false (hE.eval rfl) ?_
          refine wp_skip ?_
          refine q_block_n ?_
          refine hK12 _ _ ?_
          refine wp_plain [true, true, true] rfl rfl ?_
          refine s_move hE rfl rfl ?_; clear hE a; intro a hE
          refine s_bin hE rfl rfl (show Bin _ _ _ _ _ (.int .i64 3) from bin_add (by rw [wrap_i64 (by omega) (by omega)]; omega)) rfl ?_; clear hE a; intro a hE
          refine s_assign hE rfl rfl ?_; clear hE a; intro a hE
          refine q_nil ?_
          replace hE : Env a 57 [(1, _), (2, _), (3, _), (5, _), (6, _), (10, _), (12, _), (33, _), (56, _)] := hE.sel [1, 2, 3, 5, 6, 10, 12, 33, 56] rfl
          replace hM : Mem _ _ w8 [_] := hM.pick [1] rfl
          refine q_then_n ⟨(by first | (simp [slotB, slotZ, hb10, hJ4_0, hJ4_1, hJ10_0, hJ10_1, hb43, hb51] <;> omega) | (simp_all [slotB, slotZ] <;> omega)), hE.sel [1, 2, 3, 5, 10, 12] rfl, hM⟩
    clear hE hM a; rintro a w7 ⟨hJ10_2, hE, hM⟩
    refine c_roundsJ (fun a w' => slotB h.s3 = true ∧ Env a 57 [(1, .pointer (some ⟨b1, 0, none⟩)), (2, .bool false), (3, .int .i64 2), (5, .int .i64 4), (10, .bool false), (12, .bool false)] ∧ Mem w [] w' [blk b1 [[.int .i64 h.m], [.int .i64 h.r], [.bool h.v0.1], [.int .u64 ((h.v0.2.1 : Nat) : Int)], bv h.v0.2.2.1, bv h.v0.2.2.2, [.bool h.v1.1], [.int .u64 ((h.v1.2.1 : Nat) : Int)], bv h.v1.2.2.1, bv h.v1.2.2.2, [.bool h.s0.1], [.int .i64 h.s0.2.1], bv h.s0.2.2.1, bv h.s0.2.2.2.1, bv h.s0.2.2.2.2, [.bool h.s1.1], [.int .i64 h.s1.2.1], bv h.s1.2.2.1, bv h.s1.2.2.2.1, bv h.s1.2.2.2.2, [.bool h.s2.1], [.int .i64 h.s2.2.1], bv h.s2.2.2.1, bv h.s2.2.2.2.1, bv h.s2.2.2.2.2, [.bool h.s3.1], [.int .i64 h.s3.2.1], bv h.s3.2.2.1, bv h.s3.2.2.2.1, bv h.s3.2.2.2.2] [1, 1, 1, 1, 32, 32, 1, 1, 32, 32, 1, 1, 16, 32, 32, 1, 1, 16, 32, 32, 1, 1, 16, 32, 32, 1, 1, 16, 32, 32] 39]) ?_ ?_
    · skip
      refine wp_seq_k (fun K10 hK10 => ?_)
      refine wp_seq_k (fun K11 hK11 => ?_)
      refine wp_plain [true, true] rfl rfl ?_
      refine s_move hE rfl rfl ?_; clear hE a; intro a hE
      refine s_bin hE rfl rfl bin_lss rfl ?_; clear hE a; intro a hE
      replace hE := hE.cast 33 rfl (show _ = Value.bool true from (congrArg Value.bool (by decide)))
      refine q_nil ?_
      replace hE : Env a 57 [(1, _), (2, _), (3, _), (5, _), (10, _), (12, _), (33, _)] := hE.sel [1, 2, 3, 5, 10, 12, 33] rfl
      refine hK11 _ _ ?_
      refine wp_cond_true (hE.eval rfl) ?_
      refine wp_skip ?_
      refine hK10 _ _ ?_
      refine wp_seq_k (fun K12 hK12 => ?_)
      refine wp_block ?_
      refine wp_seq_k (fun K13 hK13 => ?_)
      refine wp_plain [true, true, true, true, false, false] rfl rfl ?_
      refine s_move hE rfl rfl ?_; clear hE a; intro a hE
      refine s_fieldAddr hE rfl fo39_2 rfl ?_; clear hE a; intro a hE
      refine s_indexArr (j := 3) hE rfl rfl arr37 rfl (by decide) rfl ?_; clear hE a; intro a hE
      refine s_loadN hE rfl (hM.get 0 rfl) row36 rfl (by intro X h; cases h) rfl ?_; clear hE a; intro a hE
      replace hE := hE.cast 39 rfl (show _ = Value.agg ([[.bool h.s3.1], [.int .i64 h.s3.2.1], bv h.s3.2.2.1, bv h.s3.2.2.2.1, bv h.s3.2.2.2.2] : List (List Value)).flatten.toArray from (by first | rfl | simp only [List.flatten_cons, List.flatten_nil, List.append_nil, List.append_assoc]))
      refine s_alloc [1, 1, 16, 32, 32] hE hM zeroL36 rfl rfl ?_; clear hE a; intro a b6 w8 hE hM'
      clear hM; have hM := hM'; clear hM'
      have hsl1135_2 : h.s3.2.2.1.length = 16 := hk.s3.2.1
      have hsl1135_3 : h.s3.2.2.2.1.length = 32 := hk.s3.2.2.1
      have hsl1135_4 : h.s3.2.2.2.2.length = 32 := hk.s3.2.2.2
      refine s_storeSegs 0 5 (vss := [[.bool h.s3.1], [.int .i64 h.s3.2.1], bv h.s3.2.2.1, bv h.s3.2.2.2.1, bv h.s3.2.2.2.2]) hE rfl rfl hM rfl sz36 (by simp only [List.take_succ_cons, List.take_zero, List.drop_zero, List.drop_succ_cons]; simp only [List.map_cons, List.map_nil, bv_length, List.length_cons, List.length_nil, List.length_replicate, hsl1135_2, hsl1135_3, hsl1135_4]) (by decide) rfl (one_fl ⟨one1 rfl, one1 rfl, bv_one _, bv_one _, bv_one _, trivial⟩) rfl (by intro X h; cases h) ?_; intro w9 hM'; clear hM; have hM := hM'; clear hM'
      try simp only [List.take_zero, List.take_succ_cons, List.drop_zero, List.drop_succ_cons, List.take_nil, List.drop_nil, List.nil_append, List.append_nil, List.cons_append] at hM
      refine q_nil ?_
      replace hE : Env a 57 [(1, _), (2, _), (3, _), (5, _), (6, _), (10, _), (12, _), (33, _)] := hE.sel [1, 2, 3, 5, 6, 10, 12, 33] rfl
      refine hK13 _ _ ?_
      refine wp_seq_k (fun K14 hK14 => ?_)
      refine wp_plain [true, true, true, true, true, true, true, true, true, true, true, true, true, true, true, true, true] rfl rfl ?_
      refine s_fieldAddr hE rfl fo36_0 rfl ?_; clear hE a; intro a hE
      refine s_load1 hE rfl (hM.get 0 rfl) rfl one4 (by intro X h; cases h) rfl ?_; clear hE a; intro a hE
      refine s_not hE rfl rfl ?_; clear hE a; intro a hE
      refine s_move hE rfl rfl ?_; clear hE a; intro a hE
      refine hE.split 43 rfl (fun hb43 hE' => ?_) (fun hb43 hE' => ?_)
      · replace hE := hE'; clear hE'
        replace hb43 := not_true hb43
        refine g_yes hE rfl rfl ?_
        refine s_loadN hE rfl (hM.get 0 rfl) row36 rfl (by intro X h; cases h) rfl ?_; clear hE a; intro a hE
        replace hE := hE.cast 44 rfl (show _ = Value.agg ([[.bool h.s3.1], [.int .i64 h.s3.2.1], bv h.s3.2.2.1, bv h.s3.2.2.2.1, bv h.s3.2.2.2.2] : List (List Value)).flatten.toArray from (by first | rfl | simp only [List.flatten_cons, List.flatten_nil, List.append_nil, List.append_assoc]))
        refine g_yes hE rfl rfl ?_
        refine s_buildS [] hE rfl zero36 (by kernel_rfl) fpl36 (by first | (simp [PartsOk, Value.cells]; done) | (simp [PartsOk, Value.cells]; omega)) rfl ?_; clear hE a; intro a hE
        replace hE := hE.cast 45 rfl (show _ = Value.agg ([[.bool false], [.int .i64 0], bv (List.replicate 16 (0 : UInt8)), bv (List.replicate 32 (0 : UInt8)), bv (List.replicate 32 (0 : UInt8))] : List (List Value)).flatten.toArray from (by first | rfl | simp [setAll] | (simp only [setAll, List.set_cons_zero, List.set_cons_succ, List.flatten_cons, List.flatten_nil, List.append_nil, List.append_assoc, List.replicate_succ, List.replicate_zero])))
        refine g_yes hE rfl rfl ?_
        refine s_bin hE rfl rfl ((eqk36 (b := decide (h.s3.1 = false ∧ (h.s3.2.1 : Int) = 0 ∧ h.s3.2.2.1 = (List.replicate 16 (0 : UInt8)) ∧ h.s3.2.2.2.1 = (List.replicate 32 (0 : UInt8)) ∧ h.s3.2.2.2.2 = (List.replicate 32 (0 : UInt8)))) (klL36 (k := 0) (x0 := h.s3.1) (x1 := h.s3.2.1) (x2 := h.s3.2.2.1) (x3 := h.s3.2.2.2.1) (x4 := h.s3.2.2.2.2) (wf_i64 hk.s3.1) hk.s3.2.1 hk.s3.2.2.1 hk.s3.2.2.2) (klL36 (k := 0) (x0 := false) (x1 := 0) (x2 := List.replicate 16 (0 : UInt8)) (x3 := List.replicate 32 (0 : UInt8)) (x4 := List.replicate 32 (0 : UInt8)) (by first | exact wf_i64 (by assumption) | (simp [Lit.wf, IntKind.min, IntKind.max, IntKind.signed, IntKind.bits]; try omega)) List.length_replicate List.length_replicate List.length_replicate) (by rw [flat_eq (by have hl_x2 : h.s3.2.2.1.length = 16 := hk.s3.2.1; have hl_x3 : h.s3.2.2.2.1.length = 32 := hk.s3.2.2.1; have hl_x4 : h.s3.2.2.2.2.length = 32 := hk.s3.2.2.2; have hl_y2 : (List.replicate 16 (0 : UInt8)).length = 16 := List.length_replicate; have hl_y3 : (List.replicate 32 (0 : UInt8)).length = 32 := List.length_replicate; have hl_y4 : (List.replicate 32 (0 : UInt8)).length = 32 := List.length_replicate; simp only [List.map_cons, List.map_nil, bv_length, List.length_cons, List.length_nil, hl_x2, hl_x3, hl_x4, hl_y2, hl_y3, hl_y4])]; simp [bv_iff, Int.ofNat_inj]; try omega)).2) rfl ?_; clear hE a; intro a hE
        refine s_pickt hE rfl rfl rfl ?_; clear hE a; intro a hE
        refine s_move hE rfl rfl ?_; clear hE a; intro a hE
        refine hE.split 48 rfl (fun hb48 hE' => ?_) (fun hb48 hE' => ?_)
        · replace hE := hE'; clear hE'
          replace hb48 := of_decide_eq_false (not_true hb48)
          refine g_no (b := true) hE rfl rfl rfl ?_; clear hE a; intro a hE
          refine g_no (b := true) hE rfl rfl rfl ?_; clear hE a; intro a hE
          refine g_no (b := true) hE rfl rfl rfl ?_; clear hE a; intro a hE
          refine g_und hE rfl rfl rfl ?_; clear hE a; intro a hE
          refine g_und hE rfl rfl rfl ?_; clear hE a; intro a hE
          refine g_und hE rfl rfl rfl ?_; clear hE a; intro a hE
          refine g_no (b := true) hE rfl rfl rfl ?_; clear hE a; intro a hE
          refine s_pickt hE rfl rfl rfl ?_; clear hE a; intro a hE
          refine q_nil ?_
          replace hE : Env a 57 [(1, _), (2, _), (3, _), (5, _), (6, _), (10, _), (12, _), (33, _), (56, _)] := hE.sel [1, 2, 3, 5, 6, 10, 12, 33, 56] rfl
          refine hK14 _ _ ?_
          refine wp_cond_true (hE.eval rfl) ?_
          refine wp_seq_k (fun K15 hK15 => ?_)
          refine wp_plain [true] rfl rfl ?_
          refine s_assign hE rfl rfl ?_; clear hE a; intro a hE
          refine q_nil ?_
          refine hK15 _ _ ?_
          refine wp_ret ?_
          refine q_block_r ?_
          refine q_then_r ?_
          refine q_then_r ?_
          refine q_block_r ?_
          refine q_then_r ?_
          refine f_ret1 hE rfl rfl ?_
          exact ⟨(by have hv : slotB h.s3 = false := (by first | (simp [slotB, slotZ, hb43, hb48] <;> omega) | (simp_all [slotB, slotZ] <;> omega)); simp [shapedB, hv]), hM.pick [] rfl⟩
        · replace hE := hE'; clear hE'
          replace hb48 := of_decide_eq_true (not_false' hb48)
          refine g_yes hE rfl rfl ?_
          refine s_fieldAddr hE rfl fo36_0 rfl ?_; clear hE a; intro a hE
          refine g_yes hE rfl rfl ?_
          refine s_load1 hE rfl (hM.get 0 rfl) rfl one4 (by intro X h; cases h) rfl ?_; clear hE a; intro a hE
          refine g_yes hE rfl rfl ?_
          refine s_move hE rfl rfl ?_; clear hE a; intro a hE
          refine hE.split 51 rfl (fun hb51 hE' => ?_) (fun hb51 hE' => ?_)
          · replace hE := hE'; clear hE'
            refine g_yes hE rfl rfl ?_
            refine s_fieldAddr hE rfl fo36_1 rfl ?_; clear hE a; intro a hE
            refine g_yes hE rfl rfl ?_
            refine s_load1 hE rfl (hM.get 0 rfl) rfl one3 (by intro X h; cases h) rfl ?_; clear hE a; intro a hE
            refine g_yes hE rfl rfl ?_
            refine s_bin hE rfl rfl bin_lss rfl ?_; clear hE a; intro a hE
            refine g_yes hE rfl rfl ?_
            refine s_pickt hE rfl rfl rfl ?_; clear hE a; intro a hE
            refine s_pickf hE rfl rfl rfl ?_; clear hE a; intro a hE
            refine q_nil ?_
            replace hE : Env a 57 [(1, _), (2, _), (3, _), (5, _), (6, _), (10, _), (12, _), (33, _), (56, _)] := hE.sel [1, 2, 3, 5, 6, 10, 12, 33, 56] rfl
            refine hK14 _ _ ?_
            refine hE.split 56 rfl (fun hb56 hE' => ?_) (fun hb56 hE' => ?_)
            · replace hE := hE'; clear hE'
              replace hb56 := of_decide_eq_true hb56
              refine wp_cond_true (hE.eval rfl) ?_
              refine wp_seq_k (fun K15 hK15 => ?_)
              refine wp_plain [true] rfl rfl ?_
              refine s_assign hE rfl rfl ?_; clear hE a; intro a hE
              refine q_nil ?_
              refine hK15 _ _ ?_
              refine wp_ret ?_
              refine q_block_r ?_
              refine q_then_r ?_
              refine q_then_r ?_
              refine q_block_r ?_
              refine q_then_r ?_
              refine f_ret1 hE rfl rfl ?_
              exact ⟨(by have hv : slotB h.s3 = false := (by first | (simp [slotB, slotZ, hb43, hb48, hb51, hb56] <;> omega) | (simp_all [slotB, slotZ] <;> omega)); simp [shapedB, hv]), hM.pick [] rfl⟩
            · replace hE := hE'; clear hE'
              replace hb56 := of_decide_eq_false hb56
              refine wp_cond_false (hE.eval rfl) ?_
              refine wp_skip ?_
              refine q_block_n ?_
              refine hK12 _ _ ?_
              refine wp_plain [true, true, true] rfl rfl ?_
              refine s_move hE rfl rfl ?_; clear hE a; intro a hE
              refine s_bin hE rfl rfl (show Bin _ _ _ _ _ (.int .i64 4) from bin_add (by rw [wrap_i64 (by omega) (by omega)]; omega)) rfl ?_; clear hE a; intro a hE
              refine s_assign hE rfl rfl ?_; clear hE a; intro a hE
              refine q_nil ?_
              replace hE : Env a 57 [(1, _), (2, _), (3, _), (5, _), (6, _), (10, _), (12, _), (33, _), (56, _)] := hE.sel [1, 2, 3, 5, 6, 10, 12, 33, 56] rfl
              replace hM : Mem _ _ w9 [_] := hM.pick [1] rfl
              refine q_then_n ⟨(by first | (simp [slotB, slotZ, hb10, hJ4_0, hJ4_1, hJ10_0, hJ10_1, hJ10_2, hb43, hb48, hb51, hb56] <;> omega) | (simp_all [slotB, slotZ] <;> omega)), hE.sel [1, 2, 3, 5, 10, 12] rfl, hM⟩
          · replace hE := hE'; clear hE'
            refine g_no (b := false) hE rfl rfl rfl ?_; clear hE a; intro a hE
            refine g_no (b := false) hE rfl rfl rfl ?_; clear hE a; intro a hE
            refine g_no (b := false) hE rfl rfl rfl ?_; clear hE a; intro a hE
            refine g_yes hE rfl rfl ?_
            refine s_pickf hE rfl rfl rfl ?_; clear hE a; intro a hE
            refine s_pickf hE rfl rfl rfl ?_; clear hE a; intro a hE
            refine q_nil ?_
            replace hE : Env a 57 [(1, _), (2, _), (3, _), (5, _), (6, _), (10, _), (12, _), (33, _), (56, _)] := hE.sel [1, 2, 3, 5, 6, 10, 12, 33, 56] rfl
            refine hK14 _ _ ?_
            refine wp_cond_false (hE.eval rfl) ?_
            refine wp_skip ?_
            refine q_block_n ?_
            refine hK12 _ _ ?_
            refine wp_plain [true, true, true] rfl rfl ?_
            refine s_move hE rfl rfl ?_; clear hE a; intro a hE
            refine s_bin hE rfl rfl (show Bin _ _ _ _ _ (.int .i64 4) from bin_add (by rw [wrap_i64 (by omega) (by omega)]; omega)) rfl ?_; clear hE a; intro a hE
            refine s_assign hE rfl rfl ?_; clear hE a; intro a hE
            refine q_nil ?_
            replace hE : Env a 57 [(1, _), (2, _), (3, _), (5, _), (6, _), (10, _), (12, _), (33, _), (56, _)] := hE.sel [1, 2, 3, 5, 6, 10, 12, 33, 56] rfl
            replace hM : Mem _ _ w9 [_] := hM.pick [1] rfl
            refine q_then_n ⟨(by first | (simp [slotB, slotZ, hb10, hJ4_0, hJ4_1, hJ10_0, hJ10_1, hJ10_2, hb43, hb48, hb51] <;> omega) | (simp_all [slotB, slotZ] <;> omega)), hE.sel [1, 2, 3, 5, 10, 12] rfl, hM⟩
      · replace hE := hE'; clear hE'
        replace hb43 := not_false' hb43
        refine g_no (b := false) hE rfl rfl rfl ?_; clear hE a; intro a hE
        refine g_no (b := false) hE rfl rfl rfl ?_; clear hE a; intro a hE
        refine g_no (b := false) hE rfl rfl rfl ?_; clear hE a; intro a hE
        refine s_pickf hE rfl rfl rfl ?_; clear hE a; intro a hE
        refine s_move hE rfl rfl ?_; clear hE a; intro a hE
        refine g_yes hE rfl rfl ?_
        refine s_fieldAddr hE rfl fo36_0 rfl ?_; clear hE a; intro a hE
        refine g_yes hE rfl rfl ?_
        refine s_load1 hE rfl (hM.get 0 rfl) rfl one4 (by intro X h; cases h) rfl ?_; clear hE a; intro a hE
        refine g_yes hE rfl rfl ?_
        refine s_move hE rfl rfl ?_; clear hE a; intro a hE
        refine hE.split 51 rfl (fun hb51 hE' => ?_) (fun hb51 hE' => ?_)
        · replace hE := hE'; clear hE'
          refine g_yes hE rfl rfl ?_
          refine s_fieldAddr hE rfl fo36_1 rfl ?_; clear hE a; intro a hE
          refine g_yes hE rfl rfl ?_
          refine s_load1 hE rfl (hM.get 0 rfl) rfl one3 (by intro X h; cases h) rfl ?_; clear hE a; intro a hE
          refine g_yes hE rfl rfl ?_
          refine s_bin hE rfl rfl bin_lss rfl ?_; clear hE a; intro a hE
          refine g_yes hE rfl rfl ?_
          refine s_pickt hE rfl rfl rfl ?_; clear hE a; intro a hE
          refine s_pickf hE rfl rfl rfl ?_; clear hE a; intro a hE
          refine q_nil ?_
          replace hE : Env a 57 [(1, _), (2, _), (3, _), (5, _), (6, _), (10, _), (12, _), (33, _), (56, _)] := hE.sel [1, 2, 3, 5, 6, 10, 12, 33, 56] rfl
          refine hK14 _ _ ?_
          refine hE.split 56 rfl (fun hb56 hE' => ?_) (fun hb56 hE' => ?_)
          · replace hE := hE'; clear hE'
            replace hb56 := of_decide_eq_true hb56
            refine wp_cond_true (hE.eval rfl) ?_
            refine wp_seq_k (fun K15 hK15 => ?_)
            refine wp_plain [true] rfl rfl ?_
            refine s_assign hE rfl rfl ?_; clear hE a; intro a hE
            refine q_nil ?_
            refine hK15 _ _ ?_
            refine wp_ret ?_
            refine q_block_r ?_
            refine q_then_r ?_
            refine q_then_r ?_
            refine q_block_r ?_
            refine q_then_r ?_
            refine f_ret1 hE rfl rfl ?_
            exact ⟨(by have hv : slotB h.s3 = false := (by first | (simp [slotB, slotZ, hb43, hb51, hb56] <;> omega) | (simp_all [slotB, slotZ] <;> omega)); simp [shapedB, hv]), hM.pick [] rfl⟩
          · replace hE := hE'; clear hE'
            replace hb56 := of_decide_eq_false hb56
            refine wp_cond_false (hE.eval rfl) ?_
            refine wp_skip ?_
            refine q_block_n ?_
            refine hK12 _ _ ?_
            refine wp_plain [true, true, true] rfl rfl ?_
            refine s_move hE rfl rfl ?_; clear hE a; intro a hE
            refine s_bin hE rfl rfl (show Bin _ _ _ _ _ (.int .i64 4) from bin_add (by rw [wrap_i64 (by omega) (by omega)]; omega)) rfl ?_; clear hE a; intro a hE
            refine s_assign hE rfl rfl ?_; clear hE a; intro a hE
            refine q_nil ?_
            replace hE : Env a 57 [(1, _), (2, _), (3, _), (5, _), (6, _), (10, _), (12, _), (33, _), (56, _)] := hE.sel [1, 2, 3, 5, 6, 10, 12, 33, 56] rfl
            replace hM : Mem _ _ w9 [_] := hM.pick [1] rfl
            refine q_then_n ⟨(by first | (simp [slotB, slotZ, hb10, hJ4_0, hJ4_1, hJ10_0, hJ10_1, hJ10_2, hb43, hb51, hb56] <;> omega) | (simp_all [slotB, slotZ] <;> omega)), hE.sel [1, 2, 3, 5, 10, 12] rfl, hM⟩
        · replace hE := hE'; clear hE'
          refine g_no (b := false) hE rfl rfl rfl ?_; clear hE a; intro a hE
          refine g_no (b := false) hE rfl rfl rfl ?_; clear hE a; intro a hE
          refine g_no (b := false) hE rfl rfl rfl ?_; clear hE a; intro a hE
          refine g_yes hE rfl rfl ?_
          refine s_pickf hE rfl rfl rfl ?_; clear hE a; intro a hE
          refine s_pickf hE rfl rfl rfl ?_; clear hE a; intro a hE
          refine q_nil ?_
          replace hE : Env a 57 [(1, _), (2, _), (3, _), (5, _), (6, _), (10, _), (12, _), (33, _), (56, _)] := hE.sel [1, 2, 3, 5, 6, 10, 12, 33, 56] rfl
          refine hK14 _ _ ?_
          refine wp_cond_false (hE.eval rfl) ?_
          refine wp_skip ?_
          refine q_block_n ?_
          refine hK12 _ _ ?_
          refine wp_plain [true, true, true] rfl rfl ?_
          refine s_move hE rfl rfl ?_; clear hE a; intro a hE
          refine s_bin hE rfl rfl (show Bin _ _ _ _ _ (.int .i64 4) from bin_add (by rw [wrap_i64 (by omega) (by omega)]; omega)) rfl ?_; clear hE a; intro a hE
          refine s_assign hE rfl rfl ?_; clear hE a; intro a hE
          refine q_nil ?_
          replace hE : Env a 57 [(1, _), (2, _), (3, _), (5, _), (6, _), (10, _), (12, _), (33, _), (56, _)] := hE.sel [1, 2, 3, 5, 6, 10, 12, 33, 56] rfl
          replace hM : Mem _ _ w9 [_] := hM.pick [1] rfl
          refine q_then_n ⟨(by first | (simp [slotB, slotZ, hb10, hJ4_0, hJ4_1, hJ10_0, hJ10_1, hJ10_2, hb43, hb51] <;> omega) | (simp_all [slotB, slotZ] <;> omega)), hE.sel [1, 2, 3, 5, 10, 12] rfl, hM⟩
    clear hE hM a; rintro a w8 ⟨hJ10_3, hE, hM⟩
    refine c_rounds ?_
    refine wp_seq_k (fun K10 hK10 => ?_)
    refine wp_seq_k (fun K11 hK11 => ?_)
    refine wp_plain [true, true] rfl rfl ?_
    refine s_move hE rfl rfl ?_; clear hE a; intro a hE
    refine s_bin hE rfl rfl bin_lss rfl ?_; clear hE a; intro a hE
    replace hE := hE.cast 33 rfl (show _ = Value.bool false from (congrArg Value.bool (by decide)))
    refine q_nil ?_
    replace hE : Env a 57 [(1, _), (2, _), (3, _), (5, _), (10, _), (12, _), (33, _)] := hE.sel [1, 2, 3, 5, 10, 12, 33] rfl
    refine hK11 _ _ ?_
    refine wp_cond_false (hE.eval rfl) ?_
    refine wp_exit ?_
    refine q_then_e ?_
    refine q_then_e ?_
    refine q_block_x ?_
    refine hK8 _ _ ?_
    refine wp_seq_k (fun K12 hK12 => ?_)
    refine wp_plain [true] rfl rfl ?_
    refine s_assign hE rfl rfl ?_; clear hE a; intro a hE
    refine q_nil ?_
    refine hK12 _ _ ?_
    refine wp_ret ?_
    refine f_ret1 hE rfl rfl ?_
    exact ⟨(by have hg : geoB h.m h.r = true := (by cases hgg : geoB h.m h.r <;> simp_all); simp [shapedB, hg, hJ4_0, hJ4_1, hJ10_0, hJ10_1, hJ10_2, hJ10_3]), hM.pick [] rfl⟩
theorem rlong_c (h : Hd) (w : World) (hk : OkHd h) : Calls Try.prog 26 #[.agg ([[.int .i64 h.m], [.int .i64 h.r], [.bool h.v0.1], [.int .u64 ((h.v0.2.1 : Nat) : Int)], bv h.v0.2.2.1, bv h.v0.2.2.2, [.bool h.v1.1], [.int .u64 ((h.v1.2.1 : Nat) : Int)], bv h.v1.2.2.1, bv h.v1.2.2.2, [.bool h.s0.1], [.int .i64 h.s0.2.1], bv h.s0.2.2.1, bv h.s0.2.2.2.1, bv h.s0.2.2.2.2, [.bool h.s1.1], [.int .i64 h.s1.2.1], bv h.s1.2.2.1, bv h.s1.2.2.2.1, bv h.s1.2.2.2.2, [.bool h.s2.1], [.int .i64 h.s2.2.1], bv h.s2.2.2.1, bv h.s2.2.2.2.1, bv h.s2.2.2.2.2, [.bool h.s3.1], [.int .i64 h.s3.2.1], bv h.s3.2.2.1, bv h.s3.2.2.2.1, bv h.s3.2.2.2.2] : List (List Value)).flatten.toArray] w fun e w' => e = .returned (.bool (longB h)) ∧ Mem w [] w' [] := by
  have hi0 := hk.s0.1
  have hi1 := hk.s1.1
  have hi2 := hk.s2.1
  have hi3 := hk.s3.1
  have hn0 := hk.v0.1
  have hn1 := hk.v1.1
  have hM := Mem.start0 w
  refine f_enter 14 Try.func26 rfl rfl rfl ?_
  intro a hE
  replace hE : Env a 14 [(0, _)] := hE
  refine wp_seq_k (fun K1 hK1 => ?_)
  refine wp_plain [false, true] rfl rfl ?_
  have hbl1_4 : h.v0.2.2.1.length = 32 := hk.v0.2.1
  have hbl1_5 : h.v0.2.2.2.length = 32 := hk.v0.2.2
  have hbl1_8 : h.v1.2.2.1.length = 32 := hk.v1.2.1
  have hbl1_9 : h.v1.2.2.2.length = 32 := hk.v1.2.2
  have hbl1_12 : h.s0.2.2.1.length = 16 := hk.s0.2.1
  have hbl1_13 : h.s0.2.2.2.1.length = 32 := hk.s0.2.2.1
  have hbl1_14 : h.s0.2.2.2.2.length = 32 := hk.s0.2.2.2
  have hbl1_17 : h.s1.2.2.1.length = 16 := hk.s1.2.1
  have hbl1_18 : h.s1.2.2.2.1.length = 32 := hk.s1.2.2.1
  have hbl1_19 : h.s1.2.2.2.2.length = 32 := hk.s1.2.2.2
  have hbl1_22 : h.s2.2.2.1.length = 16 := hk.s2.2.1
  have hbl1_23 : h.s2.2.2.2.1.length = 32 := hk.s2.2.2.1
  have hbl1_24 : h.s2.2.2.2.2.length = 32 := hk.s2.2.2.2
  have hbl1_27 : h.s3.2.2.1.length = 16 := hk.s3.2.1
  have hbl1_28 : h.s3.2.2.2.1.length = 32 := hk.s3.2.2.1
  have hbl1_29 : h.s3.2.2.2.2.length = 32 := hk.s3.2.2.2
  refine s_box (ss := [[.int .i64 h.m], [.int .i64 h.r], [.bool h.v0.1], [.int .u64 ((h.v0.2.1 : Nat) : Int)], bv h.v0.2.2.1, bv h.v0.2.2.2, [.bool h.v1.1], [.int .u64 ((h.v1.2.1 : Nat) : Int)], bv h.v1.2.2.1, bv h.v1.2.2.2, [.bool h.s0.1], [.int .i64 h.s0.2.1], bv h.s0.2.2.1, bv h.s0.2.2.2.1, bv h.s0.2.2.2.2, [.bool h.s1.1], [.int .i64 h.s1.2.1], bv h.s1.2.2.1, bv h.s1.2.2.2.1, bv h.s1.2.2.2.2, [.bool h.s2.1], [.int .i64 h.s2.2.1], bv h.s2.2.2.1, bv h.s2.2.2.2.1, bv h.s2.2.2.2.2, [.bool h.s3.1], [.int .i64 h.s3.2.1], bv h.s3.2.2.1, bv h.s3.2.2.2.1, bv h.s3.2.2.2.2]) [1, 1, 1, 1, 32, 32, 1, 1, 32, 32, 1, 1, 16, 32, 32, 1, 1, 16, 32, 32, 1, 1, 16, 32, 32, 1, 1, 16, 32, 32] hE hM rfl rfl (by simp only [List.map_cons, List.map_nil, bv_length, List.length_cons, List.length_nil, List.length_replicate, hbl1_4, hbl1_5, hbl1_8, hbl1_9, hbl1_12, hbl1_13, hbl1_14, hbl1_17, hbl1_18, hbl1_19, hbl1_22, hbl1_23, hbl1_24, hbl1_27, hbl1_28, hbl1_29]) rfl ?_; clear hE a; intro a b1 w1 hE hM'
  clear hM; have hM := hM'; clear hM'
  refine s_assign hE rfl rfl ?_; clear hE a; intro a hE
  refine q_nil ?_
  replace hE : Env a 14 [(1, _), (2, _)] := hE.sel [1, 2] rfl
  refine hK1 _ _ ?_
  refine wp_seq_k (fun K2 hK2 => ?_)
  refine wp_seq_k (fun K3 hK3 => ?_)
  refine wp_plain [true] rfl rfl ?_
  refine s_assign hE rfl rfl ?_; clear hE a; intro a hE
  refine q_nil ?_
  refine hK3 _ _ ?_
  refine wp_block ?_
  refine wp_loop_rounds 5 (c_rounds ?_)
  refine wp_seq_k (fun K4 hK4 => ?_)
  refine wp_seq_k (fun K5 hK5 => ?_)
  refine wp_plain [true, true] rfl rfl ?_
  refine s_move hE rfl rfl ?_; clear hE a; intro a hE
  refine s_bin hE rfl rfl bin_lss rfl ?_; clear hE a; intro a hE
  replace hE := hE.cast 5 rfl (show _ = Value.bool true from (congrArg Value.bool (by decide)))
  refine q_nil ?_
  replace hE : Env a 14 [(1, _), (2, _), (3, _), (5, _)] := hE.sel [1, 2, 3, 5] rfl
  refine hK5 _ _ ?_
  refine wp_cond_true (hE.eval rfl) ?_
  refine wp_skip ?_
  refine hK4 _ _ ?_
  refine wp_seq_k (fun K6 hK6 => ?_)
  refine wp_block ?_
  refine wp_seq_k (fun K7 hK7 => ?_)
  refine wp_plain [true, true, true, true, true, true] rfl rfl ?_
  refine s_move hE rfl rfl ?_; clear hE a; intro a hE
  refine s_fieldAddr hE rfl fo39_2 rfl ?_; clear hE a; intro a hE
  refine s_indexArr (j := 0) hE rfl rfl arr37 rfl (by decide) rfl ?_; clear hE a; intro a hE
  refine s_fieldAddr hE rfl fo36_1 rfl ?_; clear hE a; intro a hE
  refine s_load1 hE rfl (hM.get 0 rfl) rfl one3 (by intro X h; cases h) rfl ?_; clear hE a; intro a hE
  refine s_bin hE rfl rfl bin_gtr rfl ?_; clear hE a; intro a hE
  refine q_nil ?_
  replace hE : Env a 14 [(1, _), (2, _), (3, _), (5, _), (13, _)] := hE.sel [1, 2, 3, 5, 13] rfl
  refine hK7 _ _ ?_
  refine hE.split 13 rfl (fun hb13 hE' => ?_) (fun hb13 hE' => ?_)
  · replace hE := hE'; clear hE'
    replace hb13 := of_decide_eq_true hb13
    refine wp_cond_true (hE.eval rfl) ?_
    refine wp_seq_k (fun K8 hK8 => ?_)
    refine wp_plain [true] rfl rfl ?_
    refine s_assign hE rfl rfl ?_; clear hE a; intro a hE
    refine q_nil ?_
    refine hK8 _ _ ?_
    refine wp_ret ?_
    refine q_block_r ?_
    refine q_then_r ?_
    refine q_then_r ?_
    refine q_block_r ?_
    refine q_then_r ?_
    refine f_ret1 hE rfl rfl ?_
    exact ⟨(by simp [longB, hb13] <;> omega), hM.pick [] rfl⟩
  · replace hE := hE'; clear hE'
    replace hb13 := of_decide_eq_false hb13
    refine wp_cond_false (hE.eval rfl) ?_
    refine wp_skip ?_
    refine q_block_n ?_
    refine hK6 _ _ ?_
    refine wp_plain [true, true, true] rfl rfl ?_
    refine s_move hE rfl rfl ?_; clear hE a; intro a hE
    refine s_bin hE rfl rfl (show Bin _ _ _ _ _ (.int .i64 1) from bin_add (by rw [wrap_i64 (by omega) (by omega)]; omega)) rfl ?_; clear hE a; intro a hE
    refine s_assign hE rfl rfl ?_; clear hE a; intro a hE
    refine q_nil ?_
    replace hE : Env a 14 [(1, _), (2, _), (3, _), (5, _), (13, _)] := hE.sel [1, 2, 3, 5, 13] rfl
    replace hM : Mem _ _ w1 [_] := hM.pick [0] rfl
    refine q_then_n (c_rounds ?_)
    refine wp_seq_k (fun K8 hK8 => ?_)
    refine wp_seq_k (fun K9 hK9 => ?_)
    refine wp_plain [true, true] rfl rfl ?_
    refine s_move hE rfl rfl ?_; clear hE a; intro a hE
    refine s_bin hE rfl rfl bin_lss rfl ?_; clear hE a; intro a hE
    replace hE := hE.cast 5 rfl (show _ = Value.bool true from (congrArg Value.bool (by decide)))
    refine q_nil ?_
    replace hE : Env a 14 [(1, _), (2, _), (3, _), (5, _), (13, _)] := hE.sel [1, 2, 3, 5, 13] rfl
    refine hK9 _ _ ?_
    refine wp_cond_true (hE.eval rfl) ?_
    refine wp_skip ?_
    refine hK8 _ _ ?_
    refine wp_seq_k (fun K10 hK10 => ?_)
    refine wp_block ?_
    refine wp_seq_k (fun K11 hK11 => ?_)
    refine wp_plain [true, true, true, true, true, true] rfl rfl ?_
    refine s_move hE rfl rfl ?_; clear hE a; intro a hE
    refine s_fieldAddr hE rfl fo39_2 rfl ?_; clear hE a; intro a hE
    refine s_indexArr (j := 1) hE rfl rfl arr37 rfl (by decide) rfl ?_; clear hE a; intro a hE
    refine s_fieldAddr hE rfl fo36_1 rfl ?_; clear hE a; intro a hE
    refine s_load1 hE rfl (hM.get 0 rfl) rfl one3 (by intro X h; cases h) rfl ?_; clear hE a; intro a hE
    refine s_bin hE rfl rfl bin_gtr rfl ?_; clear hE a; intro a hE
    refine q_nil ?_
    replace hE : Env a 14 [(1, _), (2, _), (3, _), (5, _), (13, _)] := hE.sel [1, 2, 3, 5, 13] rfl
    refine hK11 _ _ ?_
    refine hE.split 13 rfl (fun hb13' hE' => ?_) (fun hb13' hE' => ?_)
    · replace hE := hE'; clear hE'
      replace hb13' := of_decide_eq_true hb13'
      refine wp_cond_true (hE.eval rfl) ?_
      refine wp_seq_k (fun K12 hK12 => ?_)
      refine wp_plain [true] rfl rfl ?_
      refine s_assign hE rfl rfl ?_; clear hE a; intro a hE
      refine q_nil ?_
      refine hK12 _ _ ?_
      refine wp_ret ?_
      refine q_block_r ?_
      refine q_then_r ?_
      refine q_then_r ?_
      refine q_block_r ?_
      refine q_then_r ?_
      refine f_ret1 hE rfl rfl ?_
      exact ⟨(by simp [longB, hb13, hb13'] <;> omega), hM.pick [] rfl⟩
    · replace hE := hE'; clear hE'
      replace hb13' := of_decide_eq_false hb13'
      refine wp_cond_false (hE.eval rfl) ?_
      refine wp_skip ?_
      refine q_block_n ?_
      refine hK10 _ _ ?_
      refine wp_plain [true, true, true] rfl rfl ?_
      refine s_move hE rfl rfl ?_; clear hE a; intro a hE
      refine s_bin hE rfl rfl (show Bin _ _ _ _ _ (.int .i64 2) from bin_add (by rw [wrap_i64 (by omega) (by omega)]; omega)) rfl ?_; clear hE a; intro a hE
      refine s_assign hE rfl rfl ?_; clear hE a; intro a hE
      refine q_nil ?_
      replace hE : Env a 14 [(1, _), (2, _), (3, _), (5, _), (13, _)] := hE.sel [1, 2, 3, 5, 13] rfl
      replace hM : Mem _ _ w1 [_] := hM.pick [0] rfl
      refine q_then_n (c_rounds ?_)
      refine wp_seq_k (fun K12 hK12 => ?_)
      refine wp_seq_k (fun K13 hK13 => ?_)
      refine wp_plain [true, true] rfl rfl ?_
      refine s_move hE rfl rfl ?_; clear hE a; intro a hE
      refine s_bin hE rfl rfl bin_lss rfl ?_; clear hE a; intro a hE
      replace hE := hE.cast 5 rfl (show _ = Value.bool true from (congrArg Value.bool (by decide)))
      refine q_nil ?_
      replace hE : Env a 14 [(1, _), (2, _), (3, _), (5, _), (13, _)] := hE.sel [1, 2, 3, 5, 13] rfl
      refine hK13 _ _ ?_
      refine wp_cond_true (hE.eval rfl) ?_
      refine wp_skip ?_
      refine hK12 _ _ ?_
      refine wp_seq_k (fun K14 hK14 => ?_)
      refine wp_block ?_
      refine wp_seq_k (fun K15 hK15 => ?_)
      refine wp_plain [true, true, true, true, true, true] rfl rfl ?_
      refine s_move hE rfl rfl ?_; clear hE a; intro a hE
      refine s_fieldAddr hE rfl fo39_2 rfl ?_; clear hE a; intro a hE
      refine s_indexArr (j := 2) hE rfl rfl arr37 rfl (by decide) rfl ?_; clear hE a; intro a hE
      refine s_fieldAddr hE rfl fo36_1 rfl ?_; clear hE a; intro a hE
      refine s_load1 hE rfl (hM.get 0 rfl) rfl one3 (by intro X h; cases h) rfl ?_; clear hE a; intro a hE
      refine s_bin hE rfl rfl bin_gtr rfl ?_; clear hE a; intro a hE
      refine q_nil ?_
      replace hE : Env a 14 [(1, _), (2, _), (3, _), (5, _), (13, _)] := hE.sel [1, 2, 3, 5, 13] rfl
      refine hK15 _ _ ?_
      refine hE.split 13 rfl (fun hb13'' hE' => ?_) (fun hb13'' hE' => ?_)
      · replace hE := hE'; clear hE'
        replace hb13'' := of_decide_eq_true hb13''
        refine wp_cond_true (hE.eval rfl) ?_
        refine wp_seq_k (fun K16 hK16 => ?_)
        refine wp_plain [true] rfl rfl ?_
        refine s_assign hE rfl rfl ?_; clear hE a; intro a hE
        refine q_nil ?_
        refine hK16 _ _ ?_
        refine wp_ret ?_
        refine q_block_r ?_
        refine q_then_r ?_
        refine q_then_r ?_
        refine q_block_r ?_
        refine q_then_r ?_
        refine f_ret1 hE rfl rfl ?_
        exact ⟨(by simp [longB, hb13, hb13', hb13''] <;> omega), hM.pick [] rfl⟩
      · replace hE := hE'; clear hE'
        replace hb13'' := of_decide_eq_false hb13''
        refine wp_cond_false (hE.eval rfl) ?_
        refine wp_skip ?_
        refine q_block_n ?_
        refine hK14 _ _ ?_
        refine wp_plain [true, true, true] rfl rfl ?_
        refine s_move hE rfl rfl ?_; clear hE a; intro a hE
        refine s_bin hE rfl rfl (show Bin _ _ _ _ _ (.int .i64 3) from bin_add (by rw [wrap_i64 (by omega) (by omega)]; omega)) rfl ?_; clear hE a; intro a hE
        refine s_assign hE rfl rfl ?_; clear hE a; intro a hE
        refine q_nil ?_
        replace hE : Env a 14 [(1, _), (2, _), (3, _), (5, _), (13, _)] := hE.sel [1, 2, 3, 5, 13] rfl
        replace hM : Mem _ _ w1 [_] := hM.pick [0] rfl
        refine q_then_n (c_rounds ?_)
        refine wp_seq_k (fun K16 hK16 => ?_)
        refine wp_seq_k (fun K17 hK17 => ?_)
        refine wp_plain [true, true] rfl rfl ?_
        refine s_move hE rfl rfl ?_; clear hE a; intro a hE
        refine s_bin hE rfl rfl bin_lss rfl ?_; clear hE a; intro a hE
        replace hE := hE.cast 5 rfl (show _ = Value.bool true from (congrArg Value.bool (by decide)))
        refine q_nil ?_
        replace hE : Env a 14 [(1, _), (2, _), (3, _), (5, _), (13, _)] := hE.sel [1, 2, 3, 5, 13] rfl
        refine hK17 _ _ ?_
        refine wp_cond_true (hE.eval rfl) ?_
        refine wp_skip ?_
        refine hK16 _ _ ?_
        refine wp_seq_k (fun K18 hK18 => ?_)
        refine wp_block ?_
        refine wp_seq_k (fun K19 hK19 => ?_)
        refine wp_plain [true, true, true, true, true, true] rfl rfl ?_
        refine s_move hE rfl rfl ?_; clear hE a; intro a hE
        refine s_fieldAddr hE rfl fo39_2 rfl ?_; clear hE a; intro a hE
        refine s_indexArr (j := 3) hE rfl rfl arr37 rfl (by decide) rfl ?_; clear hE a; intro a hE
        refine s_fieldAddr hE rfl fo36_1 rfl ?_; clear hE a; intro a hE
        refine s_load1 hE rfl (hM.get 0 rfl) rfl one3 (by intro X h; cases h) rfl ?_; clear hE a; intro a hE
        refine s_bin hE rfl rfl bin_gtr rfl ?_; clear hE a; intro a hE
        refine q_nil ?_
        replace hE : Env a 14 [(1, _), (2, _), (3, _), (5, _), (13, _)] := hE.sel [1, 2, 3, 5, 13] rfl
        refine hK19 _ _ ?_
        refine hE.split 13 rfl (fun hb13''' hE' => ?_) (fun hb13''' hE' => ?_)
        · replace hE := hE'; clear hE'
          replace hb13''' := of_decide_eq_true hb13'''
          refine wp_cond_true (hE.eval rfl) ?_
          refine wp_seq_k (fun K20 hK20 => ?_)
          refine wp_plain [true] rfl rfl ?_
          refine s_assign hE rfl rfl ?_; clear hE a; intro a hE
          refine q_nil ?_
          refine hK20 _ _ ?_
          refine wp_ret ?_
          refine q_block_r ?_
          refine q_then_r ?_
          refine q_then_r ?_
          refine q_block_r ?_
          refine q_then_r ?_
          refine f_ret1 hE rfl rfl ?_
          exact ⟨(by simp [longB, hb13, hb13', hb13'', hb13'''] <;> omega), hM.pick [] rfl⟩
        · replace hE := hE'; clear hE'
          replace hb13''' := of_decide_eq_false hb13'''
          refine wp_cond_false (hE.eval rfl) ?_
          refine wp_skip ?_
          refine q_block_n ?_
          refine hK18 _ _ ?_
          refine wp_plain [true, true, true] rfl rfl ?_
          refine s_move hE rfl rfl ?_; clear hE a; intro a hE
          refine s_bin hE rfl rfl (show Bin _ _ _ _ _ (.int .i64 4) from bin_add (by rw [wrap_i64 (by omega) (by omega)]; omega)) rfl ?_; clear hE a; intro a hE
          refine s_assign hE rfl rfl ?_; clear hE a; intro a hE
          refine q_nil ?_
          replace hE : Env a 14 [(1, _), (2, _), (3, _), (5, _), (13, _)] := hE.sel [1, 2, 3, 5, 13] rfl
          replace hM : Mem _ _ w1 [_] := hM.pick [0] rfl
          refine q_then_n (c_rounds ?_)
          refine wp_seq_k (fun K20 hK20 => ?_)
          refine wp_seq_k (fun K21 hK21 => ?_)
          refine wp_plain [true, true] rfl rfl ?_
          refine s_move hE rfl rfl ?_; clear hE a; intro a hE
          refine s_bin hE rfl rfl bin_lss rfl ?_; clear hE a; intro a hE
          replace hE := hE.cast 5 rfl (show _ = Value.bool false from (congrArg Value.bool (by decide)))
          refine q_nil ?_
          replace hE : Env a 14 [(1, _), (2, _), (3, _), (5, _), (13, _)] := hE.sel [1, 2, 3, 5, 13] rfl
          refine hK21 _ _ ?_
          refine wp_cond_false (hE.eval rfl) ?_
          refine wp_exit ?_
          refine q_then_e ?_
          refine q_then_e ?_
          refine q_block_x ?_
          refine hK2 _ _ ?_
          refine wp_seq_k (fun K22 hK22 => ?_)
          refine wp_plain [true] rfl rfl ?_
          refine s_assign hE rfl rfl ?_; clear hE a; intro a hE
          refine q_nil ?_
          refine hK22 _ _ ?_
          refine wp_ret ?_
          refine f_ret1 hE rfl rfl ?_
          exact ⟨(by simp [longB, hb13, hb13', hb13'', hb13'''] <;> omega), hM.pick [] rfl⟩
theorem rhbytes_c (u : Value) (ls : List (List UInt8)) (lc : Nat) (w : World) (hr_ls : (rd u 64 ls.length lc (ls.flatMap bv)).holds w) (ho_ls : ∀ x, x ∈ ls → x.length = 64) (hlx : ls.length ≤ 100) : Calls Try.prog 17 #[u] w fun e w' => ∃ v', e = .returned (v') ∧ Mem w [] w' [own v' 1 ls.flatten.length (bv ls.flatten)] := by
  have hM : Mem w [] w [rd u 64 ls.length lc (ls.flatMap bv)] := Mem.startR w (fun g hg => by
    simp only [List.mem_cons, List.not_mem_nil, or_false] at hg
    rcases hg with rfl
    · exact ⟨hr_ls, rfl⟩)
  refine f_enter 26 Try.func17 rfl rfl rfl ?_
  intro a hE
  replace hE : Env a 26 [(0, _)] := hE
  refine wp_seq_k (fun K1 hK1 => ?_)
  refine wp_plain [true] rfl rfl ?_
  refine s_assign hE rfl rfl ?_; clear hE a; intro a hE
  refine q_nil ?_
  refine hK1 _ _ ?_
  refine wp_seq_k (fun K2 hK2 => ?_)
  refine wp_plain [true] rfl rfl ?_
  refine s_assign hE rfl rfl ?_; clear hE a; intro a hE
  refine q_nil ?_
  refine hK2 _ _ ?_
  refine wp_seq_k (fun K3 hK3 => ?_)
  refine wp_seq_k (fun K4 hK4 => ?_)
  refine wp_plain [true] rfl rfl ?_
  refine s_assign hE rfl rfl ?_; clear hE a; intro a hE
  refine q_nil ?_
  refine hK4 _ _ ?_
  refine wp_block ?_
  replace hM := hM.addNil 1
  replace hM := hM.ownEq (m' := ([] : List UInt8).length) (cs' := bv []) rfl rfl
  replace hM := Mem.ownB (p := ([] : List UInt8)) (q := (ls.take 0).flatten) hM (by simp)
  refine c_loop (fun (i : Nat) a w' => i ≤ ls.length ∧ ∃ vl3, Env a 26 [(0, u), (2, .slice none 0 0), (3, vl3), (4, .int .i64 ((i : Nat) : Int))] ∧ Mem w [] w' [own vl3 1 ((ls.take i).flatten).length (bv ((ls.take i).flatten)), rd u 64 ls.length lc (ls.flatMap bv)]) (fun i => ls.length - i) 0 ⟨Nat.zero_le _, _, hE.sel [0, 2, 3, 4] rfl, hM⟩ ?_
  clear hE hM a; rintro i a w1 ⟨hi, vl3, hE, hM⟩
  refine wp_seq_k (fun K5 hK5 => ?_)
  refine wp_seq_k (fun K6 hK6 => ?_)
  refine wp_plain [true, true, true, true] rfl rfl ?_
  refine s_move hE rfl rfl ?_; clear hE a; intro a hE
  refine s_move hE rfl rfl ?_; clear hE a; intro a hE
  refine s_len hE rfl Try.underlying40 (rd_slice (hM.get 1 rfl)) rfl ?_; clear hE a; intro a hE
  refine s_bin hE rfl rfl bin_lss rfl ?_; clear hE a; intro a hE
  refine q_nil ?_
  replace hE : Env a 26 [(0, _), (2, _), (3, _), (4, _), (9, _)] := hE.sel [0, 2, 3, 4, 9] rfl
  refine hK6 _ _ ?_
  refine hE.split 9 rfl (fun hb9 hE' => ?_) (fun hb9 hE' => ?_)
  · replace hE := hE'; clear hE'
    replace hb9 := of_decide_eq_true hb9
    replace hb9 : i < ls.length := by omega
    replace hb9 : i < ls.length := by omega
    have hil : i < ls.length := by omega
    have hl64 := ho_ls _ (getD_mem (d := (List.replicate 64 (0 : UInt8))) hil)
    refine wp_cond_true (hE.eval rfl) ?_
    refine wp_skip ?_
    refine hK5 _ _ ?_
    refine wp_seq_k (fun K7 hK7 => ?_)
    refine wp_block ?_
    refine wp_seq_k (fun K8 hK8 => ?_)
    refine wp_plain [true] rfl rfl ?_
    refine s_assign hE rfl rfl ?_; clear hE a; intro a hE
    refine q_nil ?_
    refine hK8 _ _ ?_
    refine wp_block ?_
    replace hM := Mem.ownB (p := (ls.take i).flatten) (q := (ls.take i).flatten ++ (ls.getD i (List.replicate 64 (0 : UInt8))).take 0) hM (by simp)
    refine c_loop (fun (k : Nat) a w' => k ≤ 64 ∧ ∃ vl3, Env a 26 [(0, u), (2, .slice none 0 0), (3, vl3), (4, .int .i64 ((i : Nat) : Int)), (5, .int .i64 ((k : Nat) : Int)), (9, .bool true)] ∧ Mem w [] w' [own vl3 1 ((ls.take i).flatten ++ (ls.getD i (List.replicate 64 (0 : UInt8))).take k).length (bv ((ls.take i).flatten ++ (ls.getD i (List.replicate 64 (0 : UInt8))).take k)), rd u 64 ls.length lc (ls.flatMap bv)]) (fun k => 64 - k) 0 ⟨Nat.zero_le _, _, hE.sel [0, 2, 3, 4, 5, 9] rfl, hM⟩ ?_
    clear hE hM a; rintro k a w2 ⟨hk, vl3, hE, hM⟩
    refine wp_seq_k (fun K9 hK9 => ?_)
    refine wp_seq_k (fun K10 hK10 => ?_)
    refine wp_plain [true, true] rfl rfl ?_
    refine s_move hE rfl rfl ?_; clear hE a; intro a hE
    refine s_bin hE rfl rfl bin_lss rfl ?_; clear hE a; intro a hE
    refine q_nil ?_
    replace hE : Env a 26 [(0, _), (2, _), (3, _), (4, _), (5, _), (9, _), (13, _)] := hE.sel [0, 2, 3, 4, 5, 9, 13] rfl
    refine hK10 _ _ ?_
    refine hE.split 13 rfl (fun hb13 hE' => ?_) (fun hb13 hE' => ?_)
    · replace hE := hE'; clear hE'
      replace hb13 := of_decide_eq_true hb13
      replace hb13 : k < 64 := by omega
      replace hb13 : k < 64 := by omega
      refine wp_cond_true (hE.eval rfl) ?_
      refine wp_skip ?_
      refine hK9 _ _ ?_
      refine wp_seq_k (fun K11 hK11 => ?_)
      refine wp_block ?_
      refine wp_plain [true, true, true, true, true, true, true, false, false, true] rfl rfl ?_
      refine s_move hE rfl rfl ?_; clear hE a; intro a hE
      refine s_move hE rfl rfl ?_; clear hE a; intro a hE
      refine s_move hE rfl rfl ?_; clear hE a; intro a hE
      refine s_move hE rfl rfl ?_; clear hE a; intro a hE
      refine s_indexRd (j := i) hE rfl (hM.get 1 rfl) rfl slt40 (by first | rfl | omega) (by omega) rfl ?_; clear hE a; intro a p20 hE hc20 hp20
      have hlj20 : i < ls.length := (by omega)
      have hok20 := ho_ls _ (getD_mem (d := (List.replicate 64 (0 : UInt8))) hlj20)
      rw [flat_elem (d := (List.replicate 64 (0 : UInt8))) (fun x hx => ((bv_length _).trans (ho_ls x hx))) hlj20] at hc20
      refine s_indexAt (j := k) hE rfl hc20 rfl arr59 (by first | rfl | omega) (by first | omega | decide) rfl ?_; clear hE a; intro a p21 hE hc21 hp21
      rw [bv_elem (by have hl_ : (ls.getD i (List.replicate 64 (0 : UInt8))).length = 64 := hok20; first | omega | (simp; omega))] at hc21
      refine s_loadAt1 hE rfl hc21 one5 (by intro X h; cases h) rfl ?_; clear hE a; intro a hE
      refine s_buildSlice (xs := [.tmp 22]) (bv [(ls.getD i (List.replicate 64 (0 : UInt8))).getD k 0]) hE hM sl55 rfl rfl rfl (by intro v hv; first | (cases hv; done) | (obtain ⟨x, _, rfl⟩ := List.mem_map.1 (show v ∈ bv [(ls.getD i (List.replicate 64 (0 : UInt8))).getD k 0] from hv); rfl)) rfl rfl rfl rfl ?_; clear hE a; intro a v23 w3 hE hM'
      clear hM; have hM := hM'; clear hM'
      replace hM := hM.ownEq (m' := [(ls.getD i (List.replicate 64 (0 : UInt8))).getD k 0].length) (cs' := bv [(ls.getD i (List.replicate 64 (0 : UInt8))).getD k 0]) rfl rfl
      replace hM : Mem _ _ w3 [_, _, _] := hM.pick [1, 0, 2] rfl
      obtain ⟨cq1, hq1⟩ := own_rd (hM.get 1 rfl)
      refine s_append hE rfl rfl hM sl55 (Src.rd Try.underlying55 hq1 (bv_one _)) (len47 (by have hl_x : ((ls.take i).flatten ++ (ls.getD i (List.replicate 64 (0 : UInt8))).take k).length = 64 * i + k := (by have h1 := flatk_len (i := i) ho_ls (by omega); have h2 := ho_ls _ (getD_mem (d := (List.replicate 64 (0 : UInt8))) hil); simp only [List.length_append, List.length_take, h1, h2]; omega); have hl_y : [(ls.getD i (List.replicate 64 (0 : UInt8))).getD k 0].length = 1 := (by first | (simp; done) | (simp [*]; done) | (simp; omega)); first | omega | (simp; done) | (simp; omega))) (by have hl_x : ((ls.take i).flatten ++ (ls.getD i (List.replicate 64 (0 : UInt8))).take k).length = 64 * i + k := (by have h1 := flatk_len (i := i) ho_ls (by omega); have h2 := ho_ls _ (getD_mem (d := (List.replicate 64 (0 : UInt8))) hil); simp only [List.length_append, List.length_take, h1, h2]; omega); have hl_y : [(ls.getD i (List.replicate 64 (0 : UInt8))).getD k 0].length = 1 := (by first | (simp; done) | (simp [*]; done) | (simp; omega)); first | omega | (simp; done) | (simp; omega)) (by intro X h; cases h) rfl ?_; clear hE a; intro a v24 w4 hE hM'; clear hM; have hM := hM'; clear hM'
      replace hM := Mem.ownApp (p := (ls.take i).flatten ++ (ls.getD i (List.replicate 64 (0 : UInt8))).take k) (q := [(ls.getD i (List.replicate 64 (0 : UInt8))).getD k 0]) hM (by first | rfl | (simp; done))
      replace hM : Mem _ _ w4 [_, _] := hM.pick [0, 2] rfl
      refine s_assign hE rfl rfl ?_; clear hE a; intro a hE
      refine q_nil ?_
      replace hE : Env a 26 [(0, _), (2, _), (3, _), (4, _), (5, _), (9, _), (13, _)] := hE.sel [0, 2, 3, 4, 5, 9, 13] rfl
      refine q_block_n ?_
      refine hK11 _ _ ?_
      refine wp_plain [true, true, true] rfl rfl ?_
      refine s_move hE rfl rfl ?_; clear hE a; intro a hE
      refine s_bin hE rfl rfl (show Bin _ _ _ _ _ (.int .i64 ((k + 1 : Nat) : Int)) from bin_add (by rw [wrap_i64 (by omega) (by omega)]; omega)) rfl ?_; clear hE a; intro a hE
      refine s_assign hE rfl rfl ?_; clear hE a; intro a hE
      refine q_nil ?_
      replace hE : Env a 26 [(0, _), (2, _), (3, _), (4, _), (5, _), (9, _), (13, _)] := hE.sel [0, 2, 3, 4, 5, 9, 13] rfl
      replace hE := hE.cast 5 rfl (show _ = Value.int .i64 (((k + 1) : Nat) : Int) from (congrArg _ (by omega)))
      replace hM := Mem.ownB (p := ((ls.take i).flatten ++ (ls.getD i (List.replicate 64 (0 : UInt8))).take k) ++ [(ls.getD i (List.replicate 64 (0 : UInt8))).getD k 0]) (q := (ls.take i).flatten ++ (ls.getD i (List.replicate 64 (0 : UInt8))).take (k + 1)) hM (by rw [List.append_assoc, ← take_snoc (by omega)])
      replace hM : Mem _ _ w4 [_, _] := hM.pick [0, 1] rfl
      exact ⟨k + 1, ⟨by omega, _, hE.sel [0, 2, 3, 4, 5, 9] rfl, hM⟩, by omega⟩
    · replace hE := hE'; clear hE'
      replace hb13 := of_decide_eq_false hb13
      replace hb13 : ¬ (k < 64) := by omega
      obtain rfl : 64 = k := by omega
      replace hM := Mem.ownB (p := (ls.take i).flatten ++ (ls.getD i (List.replicate 64 (0 : UInt8))).take 64) (q := (ls.take i).flatten ++ ls.getD i (List.replicate 64 (0 : UInt8))) hM (by rw [take_all hl64])
      refine wp_cond_false (hE.eval rfl) ?_
      refine wp_exit ?_
      refine q_then_e ?_
      refine q_then_e ?_
      refine q_block_x ?_
      refine q_block_n ?_
      refine hK7 _ _ ?_
      refine wp_plain [true, true, true] rfl rfl ?_
      refine s_move hE rfl rfl ?_; clear hE a; intro a hE
      refine s_bin hE rfl rfl (show Bin _ _ _ _ _ (.int .i64 ((i + 1 : Nat) : Int)) from bin_add (by rw [wrap_i64 (by omega) (by omega)]; omega)) rfl ?_; clear hE a; intro a hE
      refine s_assign hE rfl rfl ?_; clear hE a; intro a hE
      refine q_nil ?_
      replace hE : Env a 26 [(0, _), (2, _), (3, _), (4, _), (5, _), (9, _), (13, _)] := hE.sel [0, 2, 3, 4, 5, 9, 13] rfl
      replace hE := hE.cast 4 rfl (show _ = Value.int .i64 (((i + 1) : Nat) : Int) from (congrArg _ (by omega)))
      replace hM := Mem.ownB (p := (ls.take i).flatten ++ ls.getD i (List.replicate 64 (0 : UInt8))) (q := (ls.take (i + 1)).flatten) hM ((flatk_step (d := (List.replicate 64 (0 : UInt8))) (by omega)).symm)
      replace hM : Mem _ _ w2 [_, _] := hM.pick [0, 1] rfl
      exact ⟨i + 1, ⟨by omega, _, hE.sel [0, 2, 3, 4] rfl, hM⟩, by omega⟩
  · replace hE := hE'; clear hE'
    replace hb9 := of_decide_eq_false hb9
    replace hb9 : ¬ (i < ls.length) := by omega
    obtain rfl : ls.length = i := by omega
    replace hM := Mem.ownB (p := (ls.take ls.length).flatten) (q := ls.flatten) hM (by rw [List.take_length])
    refine wp_cond_false (hE.eval rfl) ?_
    refine wp_exit ?_
    refine q_then_e ?_
    refine q_then_e ?_
    refine q_block_x ?_
    refine hK3 _ _ ?_
    refine wp_seq_k (fun K7 hK7 => ?_)
    refine wp_plain [true, true] rfl rfl ?_
    refine s_move hE rfl rfl ?_; clear hE a; intro a hE
    refine s_assign hE rfl rfl ?_; clear hE a; intro a hE
    refine q_nil ?_
    replace hE : Env a 26 [(0, _), (2, _), (3, _), (4, _), (9, _)] := hE.sel [0, 2, 3, 4, 9] rfl
    refine hK7 _ _ ?_
    refine wp_ret ?_
    refine f_ret1 hE rfl rfl ?_
    exact ⟨_, (by first | rfl | (simp; done)), hM.pick [0] rfl⟩
theorem rdigits_c (k : Nat) (m : Nat) (w : World) (hm : m < 18446744073709551616) (hk : k ≤ 8) : Calls Try.prog 35 #[.int .i64 (k : Int), .int .u64 (m : Int)] w fun e w' => ∃ v', e = .returned (v') ∧ Mem w [] w' [own v' 1 (laid k m).length (bv (laid k m))] := by
  have hM := Mem.start0 w
  refine f_enter 24 Try.func35 rfl rfl rfl ?_
  intro a hE
  replace hE : Env a 24 [(0, _), (1, _)] := hE
  refine wp_seq_k (fun K1 hK1 => ?_)
  refine wp_plain [true] rfl rfl ?_
  refine s_assign hE rfl rfl ?_; clear hE a; intro a hE
  refine q_nil ?_
  refine hK1 _ _ ?_
  refine wp_seq_k (fun K2 hK2 => ?_)
  refine wp_plain [true, false, true] rfl rfl ?_
  refine s_move hE rfl rfl ?_; clear hE a; intro a hE
  refine s_makeSlice (m := k) (zc := [bV 0]) hE rfl rfl hM sl55 ⟨.int .u8 0, by kernel_rfl, rfl⟩ rfl rfl (by omega) (by omega) (by decide) rfl ?_; clear hE a; intro a v8 w1 hE hM'; clear hM; have hM := hM'; clear hM'
  replace hM := hM.ownEq (m' := (List.replicate k (0 : UInt8)).length) (cs' := bv (List.replicate k (0 : UInt8))) (by simp) (by simp [bv])
  refine s_assign hE rfl rfl ?_; clear hE a; intro a hE
  refine q_nil ?_
  replace hE : Env a 24 [(0, _), (1, _), (4, _), (5, _)] := hE.sel [0, 1, 4, 5] rfl
  refine hK2 _ _ ?_
  refine wp_seq_k (fun K3 hK3 => ?_)
  refine wp_seq_k (fun K4 hK4 => ?_)
  refine wp_plain [true, true, true] rfl rfl ?_
  refine s_move hE rfl rfl ?_; clear hE a; intro a hE
  refine s_bin hE rfl rfl (bin_sub (wrap_i64 (by omega) (by omega))) rfl ?_; clear hE a; intro a hE
  refine s_assign hE rfl rfl ?_; clear hE a; intro a hE
  refine q_nil ?_
  replace hE : Env a 24 [(0, _), (1, _), (4, _), (5, _), (6, _)] := hE.sel [0, 1, 4, 5, 6] rfl
  refine hK4 _ _ ?_
  refine wp_block ?_
  replace hM := Mem.ownB (p := List.replicate k (0 : UInt8)) (q := List.replicate (k - 0) 0 ++ laid 0 m) hM (by simp [laid])
  replace hE := hE.cast 6 rfl (show _ = Value.int .i64 ((k : Int) - 1 - ((0 : Nat) : Int)) from (by first | rfl | simp))
  replace hE := hE.cast 1 rfl (show _ = Value.int .u64 ((m / 256 ^ 0 : Nat) : Int) from (by first | rfl | simp))
  refine c_loop (fun (j : Nat) a w' => j ≤ k ∧ Env a 24 [(0, .int .i64 ((k : Nat) : Int)), (1, .int .u64 ((m / 256 ^ j : Nat) : Int)), (4, .slice none 0 0), (5, v8), (6, .int .i64 ((k : Int) - 1 - ((j : Nat) : Int)))] ∧ Mem w [] w' [own v8 1 (List.replicate (k - j) 0 ++ laid j m).length (bv (List.replicate (k - j) 0 ++ laid j m))]) (fun j => k - j) 0 ⟨Nat.zero_le _, hE.sel [0, 1, 4, 5, 6] rfl, hM⟩ ?_
  clear hE hM a; rintro j a w2 ⟨hj, hE, hM⟩
  refine wp_seq_k (fun K5 hK5 => ?_)
  refine wp_seq_k (fun K6 hK6 => ?_)
  refine wp_plain [true, true] rfl rfl ?_
  refine s_move hE rfl rfl ?_; clear hE a; intro a hE
  refine s_bin hE rfl rfl bin_geq rfl ?_; clear hE a; intro a hE
  refine q_nil ?_
  replace hE : Env a 24 [(0, _), (1, _), (4, _), (5, _), (6, _), (12, _)] := hE.sel [0, 1, 4, 5, 6, 12] rfl
  refine hK6 _ _ ?_
  refine hE.split 12 rfl (fun hb12 hE' => ?_) (fun hb12 hE' => ?_)
  · replace hE := hE'; clear hE'
    replace hb12 := of_decide_eq_true hb12
    replace hb12 : j < k := by omega
    refine wp_cond_true (hE.eval rfl) ?_
    refine wp_skip ?_
    refine hK5 _ _ ?_
    refine wp_seq_k (fun K7 hK7 => ?_)
    refine wp_block ?_
    refine wp_seq_k (fun K8 hK8 => ?_)
    refine wp_plain [true, true, true, true, true, true, false] rfl rfl ?_
    refine s_move hE rfl rfl ?_; clear hE a; intro a hE
    refine s_move hE rfl rfl ?_; clear hE a; intro a hE
    refine s_move hE rfl rfl ?_; clear hE a; intro a hE
    refine s_bin hE rfl rfl (bin_rem_nat (m := (m / 256 ^ j)) (s := 256) (by decide)) rfl ?_; clear hE a; intro a hE
    refine s_conv hE rfl (cnv_int Try.underlying24 Try.underlying5 (wrap_u8_ofNat ((m / 256 ^ j) % 256))) rfl ?_; clear hE a; intro a hE
    refine s_indexOwn (j := k - 1 - j) hE rfl (hM.get 0 rfl) rfl slt55 (by first | rfl | omega) (by have hl_ : (List.replicate (k - j) 0 ++ laid j m).length = k := (numI_len (by omega)); first | omega | (rw [bv_length]; omega) | (simp; omega)) rfl ?_; clear hE a; intro a hE hc20
    refine s_storeOwn (vs := [_]) hE rfl rfl hM rfl sz5 rfl (one1 rfl) (by have hl_ : (List.replicate (k - j) 0 ++ laid j m).length = k := (numI_len (by omega)); first | omega | (simp; omega)) (by have hl_ : (List.replicate (k - j) 0 ++ laid j m).length = k := (numI_len (by omega)); first | omega | (simp; omega)) (by intro X h; cases h) ?_; intro w3 hM'; clear hM; have hM := hM'; clear hM'
    replace hM := Mem.ownSet (p := List.replicate (k - j) 0 ++ laid j m) (j := k - 1 - j) (b := UInt8.ofNat ((m / 256 ^ j) % 256)) hM (by have hl_ : (List.replicate (k - j) 0 ++ laid j m).length = k := (numI_len (by omega)); first | omega | (rw [bv_length]; omega) | (simp; omega))
    refine q_nil ?_
    replace hE : Env a 24 [(0, _), (1, _), (4, _), (5, _), (6, _), (12, _)] := hE.sel [0, 1, 4, 5, 6, 12] rfl
    refine hK8 _ _ ?_
    refine wp_plain [true, true, true] rfl rfl ?_
    refine s_move hE rfl rfl ?_; clear hE a; intro a hE
    refine s_bin hE rfl rfl (bin_quo_nat (m := (m / 256 ^ j)) (s := 256) (by decide) (wrap_u64n (div_lt64 (by first | omega | exact div_lt64 (by omega) | exact div_lt64 (by assumption))))) rfl ?_; clear hE a; intro a hE
    refine s_assign hE rfl rfl ?_; clear hE a; intro a hE
    refine q_nil ?_
    replace hE : Env a 24 [(0, _), (1, _), (4, _), (5, _), (6, _), (12, _)] := hE.sel [0, 1, 4, 5, 6, 12] rfl
    refine q_block_n ?_
    refine hK7 _ _ ?_
    refine wp_plain [true, true, true] rfl rfl ?_
    refine s_move hE rfl rfl ?_; clear hE a; intro a hE
    refine s_bin hE rfl rfl (bin_sub (wrap_i64 (by omega) (by omega))) rfl ?_; clear hE a; intro a hE
    refine s_assign hE rfl rfl ?_; clear hE a; intro a hE
    refine q_nil ?_
    replace hE : Env a 24 [(0, _), (1, _), (4, _), (5, _), (6, _), (12, _)] := hE.sel [0, 1, 4, 5, 6, 12] rfl
    replace hE := hE.cast 1 rfl (show _ = Value.int .u64 ((m / 256 ^ (j + 1) : Nat) : Int) from (by rw [Nat.div_div_eq_div_mul, ← Nat.pow_succ]))
    replace hE := hE.cast 6 rfl (show _ = Value.int .i64 ((k : Int) - 1 - (((j + 1) : Nat) : Int)) from (congrArg _ (by omega)))
    replace hM := Mem.ownB (p := (List.replicate (k - j) 0 ++ laid j m).set (k - 1 - j) (UInt8.ofNat ((m / 256 ^ j) % 256))) (q := List.replicate (k - (j + 1)) 0 ++ laid (j + 1) m) hM (numI_set (by omega))
    replace hM : Mem _ _ w3 [_] := hM.pick [0] rfl
    exact ⟨j + 1, ⟨by omega, hE.sel [0, 1, 4, 5, 6] rfl, hM⟩, by omega⟩
  · replace hE := hE'; clear hE'
    replace hb12 := of_decide_eq_false hb12
    obtain rfl : k = j := by omega
    replace hM := Mem.ownB (p := List.replicate (k - k) 0 ++ laid k m) (q := laid k m) hM (by simp)
    refine wp_cond_false (hE.eval rfl) ?_
    refine wp_exit ?_
    refine q_then_e ?_
    refine q_then_e ?_
    refine q_block_x ?_
    refine hK3 _ _ ?_
    refine wp_seq_k (fun K7 hK7 => ?_)
    refine wp_plain [true, true] rfl rfl ?_
    refine s_move hE rfl rfl ?_; clear hE a; intro a hE
    refine s_assign hE rfl rfl ?_; clear hE a; intro a hE
    refine q_nil ?_
    replace hE : Env a 24 [(0, _), (1, _), (4, _), (5, _), (6, _), (12, _)] := hE.sel [0, 1, 4, 5, 6, 12] rfl
    refine hK7 _ _ ?_
    refine wp_ret ?_
    refine f_ret1 hE rfl rfl ?_
    exact ⟨_, (by first | rfl | (simp; done)), hM.pick [0] rfl⟩
theorem rvalue6_c (v : Value) (bs : List UInt8) (c : Nat) (w : World) (hr_bs : (rd v 1 bs.length c (bv bs)).holds w) (hk : bs.length ≤ 8) : Calls Try.prog 29 #[v] w fun e w' => e = .returned (.int .u64 ((val bs : Nat) : Int)) ∧ Mem w [] w' [] := by
  have hM : Mem w [] w [rd v 1 bs.length c (bv bs)] := Mem.startR w (fun g hg => by
    simp only [List.mem_cons, List.not_mem_nil, or_false] at hg
    rcases hg with rfl
    · exact ⟨hr_bs, rfl⟩)
  refine f_enter 20 Try.func29 rfl rfl rfl ?_
  intro a hE
  replace hE : Env a 20 [(0, _)] := hE
  refine wp_seq_k (fun K1 hK1 => ?_)
  refine wp_plain [true] rfl rfl ?_
  refine s_assign hE rfl rfl ?_; clear hE a; intro a hE
  refine q_nil ?_
  refine hK1 _ _ ?_
  refine wp_seq_k (fun K2 hK2 => ?_)
  refine wp_plain [true] rfl rfl ?_
  refine s_assign hE rfl rfl ?_; clear hE a; intro a hE
  refine q_nil ?_
  refine hK2 _ _ ?_
  refine wp_seq_k (fun K3 hK3 => ?_)
  refine wp_seq_k (fun K4 hK4 => ?_)
  refine wp_plain [true] rfl rfl ?_
  refine s_assign hE rfl rfl ?_; clear hE a; intro a hE
  refine q_nil ?_
  refine hK4 _ _ ?_
  refine wp_block ?_
  replace hE := hE.cast 3 rfl (show _ = Value.int .u64 ((val (bs.take 0) : Nat) : Int) from (by first | rfl | simp))
  refine c_loop (fun (i : Nat) a w' => i ≤ bs.length ∧ Env a 20 [(0, v), (2, .int .u64 0), (3, .int .u64 ((val (bs.take i) : Nat) : Int)), (4, .int .i64 ((i : Nat) : Int))] ∧ Mem w [] w' [rd v 1 bs.length c (bv bs)]) (fun i => bs.length - i) 0 ⟨Nat.zero_le _, hE.sel [0, 2, 3, 4] rfl, hM⟩ ?_
  clear hE hM a; rintro i a w1 ⟨hi, hE, hM⟩
  refine wp_seq_k (fun K5 hK5 => ?_)
  refine wp_seq_k (fun K6 hK6 => ?_)
  refine wp_plain [true, true, true, true] rfl rfl ?_
  refine s_move hE rfl rfl ?_; clear hE a; intro a hE
  refine s_move hE rfl rfl ?_; clear hE a; intro a hE
  refine s_len hE rfl Try.underlying55 (rd_slice (hM.get 0 rfl)) rfl ?_; clear hE a; intro a hE
  refine s_bin hE rfl rfl bin_lss rfl ?_; clear hE a; intro a hE
  refine q_nil ?_
  replace hE : Env a 20 [(0, _), (2, _), (3, _), (4, _), (8, _)] := hE.sel [0, 2, 3, 4, 8] rfl
  refine hK6 _ _ ?_
  refine hE.split 8 rfl (fun hb8 hE' => ?_) (fun hb8 hE' => ?_)
  · replace hE := hE'; clear hE'
    replace hb8 := of_decide_eq_true hb8
    replace hb8 : i < bs.length := by omega
    replace hb8 : i < bs.length := by omega
    have hv56 := val_lt56 (bs := bs.take i) (by simp; omega)
    have hb8t := (bs.getD i 0).toNat_lt
    refine wp_cond_true (hE.eval rfl) ?_
    refine wp_skip ?_
    refine hK5 _ _ ?_
    refine wp_seq_k (fun K7 hK7 => ?_)
    refine wp_block ?_
    refine wp_plain [true, true, true, true, true, true, true, true, true] rfl rfl ?_
    refine s_move hE rfl rfl ?_; clear hE a; intro a hE
    refine s_bin hE rfl rfl (show Bin _ _ _ _ _ (.int .u64 ((256 * (val (bs.take i)) : Nat) : Int)) from bin_mul (by rw [wrap_u64 (by omega) (by omega)]; omega)) rfl ?_; clear hE a; intro a hE
    refine s_move hE rfl rfl ?_; clear hE a; intro a hE
    refine s_move hE rfl rfl ?_; clear hE a; intro a hE
    refine s_indexRd (j := i) hE rfl (hM.get 0 rfl) rfl slt55 (by first | rfl | omega) (by first | omega | (rw [bv_length]; omega) | (simp; omega)) rfl ?_; clear hE a; intro a p15 hE hc15 hp15
    rw [bv_elem (by first | omega | (rw [bv_length]; omega) | (simp; omega))] at hc15
    refine s_loadAt1 hE rfl hc15 one5 (by intro X h; cases h) rfl ?_; clear hE a; intro a hE
    refine s_conv hE rfl (cnv_int Try.underlying5 Try.underlying24 (wrap_u64 (by omega) (by have := (bs.getD i 0 : UInt8).toNat_lt; omega))) rfl ?_; clear hE a; intro a hE
    refine s_bin hE rfl rfl (show Bin _ _ _ _ _ (.int .u64 (((256 * (val (bs.take i))) + ((bs.getD i 0).toNat) : Nat) : Int)) from bin_add (by rw [wrap_u64 (by omega) (by omega)]; omega)) rfl ?_; clear hE a; intro a hE
    refine s_assign hE rfl rfl ?_; clear hE a; intro a hE
    refine q_nil ?_
    replace hE : Env a 20 [(0, _), (2, _), (3, _), (4, _), (8, _)] := hE.sel [0, 2, 3, 4, 8] rfl
    refine q_block_n ?_
    refine hK7 _ _ ?_
    refine wp_plain [true, true, true] rfl rfl ?_
    refine s_move hE rfl rfl ?_; clear hE a; intro a hE
    refine s_bin hE rfl rfl (show Bin _ _ _ _ _ (.int .i64 ((i + 1 : Nat) : Int)) from bin_add (by rw [wrap_i64 (by omega) (by omega)]; omega)) rfl ?_; clear hE a; intro a hE
    refine s_assign hE rfl rfl ?_; clear hE a; intro a hE
    refine q_nil ?_
    replace hE : Env a 20 [(0, _), (2, _), (3, _), (4, _), (8, _)] := hE.sel [0, 2, 3, 4, 8] rfl
    replace hE := hE.cast 3 rfl (show _ = Value.int .u64 ((val (bs.take (i + 1)) : Nat) : Int) from (congrArg (fun n : Nat => Value.int .u64 (n : Int)) (by rw [val_take_succ (by omega)]; omega)))
    replace hE := hE.cast 4 rfl (show _ = Value.int .i64 (((i + 1) : Nat) : Int) from (congrArg _ (by omega)))
    replace hM : Mem _ _ w1 [_] := hM.pick [0] rfl
    exact ⟨i + 1, ⟨by omega, hE.sel [0, 2, 3, 4] rfl, hM⟩, by omega⟩
  · replace hE := hE'; clear hE'
    replace hb8 := of_decide_eq_false hb8
    replace hb8 : ¬ (i < bs.length) := by omega
    obtain rfl : bs.length = i := by omega
    refine wp_cond_false (hE.eval rfl) ?_
    refine wp_exit ?_
    refine q_then_e ?_
    refine q_then_e ?_
    refine q_block_x ?_
    refine hK3 _ _ ?_
    refine wp_seq_k (fun K7 hK7 => ?_)
    refine wp_plain [true, true] rfl rfl ?_
    refine s_move hE rfl rfl ?_; clear hE a; intro a hE
    refine s_assign hE rfl rfl ?_; clear hE a; intro a hE
    refine q_nil ?_
    replace hE : Env a 20 [(0, _), (2, _), (3, _), (4, _), (8, _)] := hE.sel [0, 2, 3, 4, 8] rfl
    refine hK7 _ _ ?_
    refine wp_ret ?_
    refine f_ret1 hE rfl rfl ?_
    exact ⟨(by rw [List.take_length]), hM.pick [] rfl⟩
theorem rb10_c (t : List UInt8) (w : World) (hl_t : t.length = 32) : Calls Try.prog 46 #[.agg (bv t).toArray] w fun e w' => ∃ v', e = .returned (v') ∧ Mem w [] w' [own v' 1 t.length (bv t)] := by
  have hM := Mem.start0 w
  refine f_enter 16 Try.func46 rfl rfl rfl ?_
  intro a hE
  replace hE : Env a 16 [(0, _)] := hE
  refine wp_seq_k (fun K1 hK1 => ?_)
  refine wp_plain [false, true] rfl rfl ?_
  refine s_box (ss := [bv t]) [32] hE hM rfl (by simp [Value.cells]) (by simp [*]) rfl ?_; clear hE a; intro a b1 w1 hE hM'
  clear hM; have hM := hM'; clear hM'
  refine s_assign hE rfl rfl ?_; clear hE a; intro a hE
  refine q_nil ?_
  replace hE : Env a 16 [(1, _), (2, _)] := hE.sel [1, 2] rfl
  refine hK1 _ _ ?_
  refine wp_seq_k (fun K2 hK2 => ?_)
  refine wp_plain [true] rfl rfl ?_
  refine s_assign hE rfl rfl ?_; clear hE a; intro a hE
  refine q_nil ?_
  refine hK2 _ _ ?_
  refine wp_seq_k (fun K3 hK3 => ?_)
  refine wp_seq_k (fun K4 hK4 => ?_)
  refine wp_plain [true] rfl rfl ?_
  refine s_assign hE rfl rfl ?_; clear hE a; intro a hE
  refine q_nil ?_
  refine hK4 _ _ ?_
  refine wp_block ?_
  replace hM := hM.addNil 1
  replace hM := hM.ownEq (m' := ([] : List UInt8).length) (cs' := bv []) rfl rfl
  replace hM := Mem.ownB (p := ([] : List UInt8)) (q := t.take 0) hM (by first | with_reducible rfl | (simp; done) | (simp [*]; done) | rfl)
  refine c_loop (fun (i : Nat) a w' => i ≤ 32 ∧ ∃ vl3, Env a 16 [(1, .pointer (some ⟨b1, 0, none⟩)), (2, .slice none 0 0), (3, vl3), (4, .int .i64 ((i : Nat) : Int))] ∧ Mem w [] w' [own vl3 1 (t.take i).length (bv (t.take i)), blk b1 [bv t] [32] 26]) (fun i => 32 - i) 0 ⟨Nat.zero_le _, _, hE.sel [1, 2, 3, 4] rfl, hM⟩ ?_
  clear hE hM a; rintro i a w2 ⟨hi, vl3, hE, hM⟩
  refine wp_seq_k (fun K5 hK5 => ?_)
  refine wp_seq_k (fun K6 hK6 => ?_)
  refine wp_plain [true, true] rfl rfl ?_
  refine s_move hE rfl rfl ?_; clear hE a; intro a hE
  refine s_bin hE rfl rfl bin_lss rfl ?_; clear hE a; intro a hE
  refine q_nil ?_
  replace hE : Env a 16 [(1, _), (2, _), (3, _), (4, _), (6, _)] := hE.sel [1, 2, 3, 4, 6] rfl
  refine hK6 _ _ ?_
  refine hE.split 6 rfl (fun hb6 hE' => ?_) (fun hb6 hE' => ?_)
  · replace hE := hE'; clear hE'
    replace hb6 := of_decide_eq_true hb6
    replace hb6 : i < 32 := by omega
    replace hb6 : i < 32 := by omega
    refine wp_cond_true (hE.eval rfl) ?_
    refine wp_skip ?_
    refine hK5 _ _ ?_
    refine wp_seq_k (fun K7 hK7 => ?_)
    refine wp_block ?_
    refine wp_plain [true, true, true, true, false, false, true] rfl rfl ?_
    refine s_move hE rfl rfl ?_; clear hE a; intro a hE
    refine s_move hE rfl rfl ?_; clear hE a; intro a hE
    refine s_indexArr (j := i) hE rfl rfl arr26 (by first | rfl | omega) (by first | omega | decide) rfl ?_; clear hE a; intro a hE
    refine s_loadIdx (j := i) hE rfl (by omega) (hM.get 1 rfl) (bv_get (by have hl_ : t.length = 32 := hl_t; first | omega | (rw [bv_length]; omega) | (simp; omega))) one5 (by intro X h; cases h) rfl ?_; clear hE a; intro a hE
    refine s_buildSlice (xs := [.tmp 12]) (bv [t.getD i 0]) hE hM sl55 rfl rfl rfl (by intro v hv; first | (cases hv; done) | (obtain ⟨x, _, rfl⟩ := List.mem_map.1 (show v ∈ bv [t.getD i 0] from hv); rfl)) rfl rfl rfl rfl ?_; clear hE a; intro a v13 w3 hE hM'
    clear hM; have hM := hM'; clear hM'
    replace hM := hM.ownEq (m' := [t.getD i 0].length) (cs' := bv [t.getD i 0]) rfl rfl
    replace hM : Mem _ _ w3 [_, _, _] := hM.pick [1, 0, 2] rfl
    obtain ⟨cq1, hq1⟩ := own_rd (hM.get 1 rfl)
    refine s_append hE rfl rfl hM sl55 (Src.rd Try.underlying55 hq1 (bv_one _)) (len47 (by have hl_x : (t.take i).length = i := (by simp; omega); have hl_y : [t.getD i 0].length = 1 := (by first | (simp; done) | (simp [*]; done) | (simp; omega)); first | omega | (simp; done) | (simp; omega))) (by have hl_x : (t.take i).length = i := (by simp; omega); have hl_y : [t.getD i 0].length = 1 := (by first | (simp; done) | (simp [*]; done) | (simp; omega)); first | omega | (simp; done) | (simp; omega)) (by intro X h; cases h) rfl ?_; clear hE a; intro a v14 w4 hE hM'; clear hM; have hM := hM'; clear hM'
    replace hM := Mem.ownApp (p := t.take i) (q := [t.getD i 0]) hM (by first | rfl | (simp; done))
    replace hM : Mem _ _ w4 [_, _] := hM.pick [0, 2] rfl
    refine s_assign hE rfl rfl ?_; clear hE a; intro a hE
    refine q_nil ?_
    replace hE : Env a 16 [(1, _), (2, _), (3, _), (4, _), (6, _)] := hE.sel [1, 2, 3, 4, 6] rfl
    refine q_block_n ?_
    refine hK7 _ _ ?_
    refine wp_plain [true, true, true] rfl rfl ?_
    refine s_move hE rfl rfl ?_; clear hE a; intro a hE
    refine s_bin hE rfl rfl (show Bin _ _ _ _ _ (.int .i64 ((i + 1 : Nat) : Int)) from bin_add (by rw [wrap_i64 (by omega) (by omega)]; omega)) rfl ?_; clear hE a; intro a hE
    refine s_assign hE rfl rfl ?_; clear hE a; intro a hE
    refine q_nil ?_
    replace hE : Env a 16 [(1, _), (2, _), (3, _), (4, _), (6, _)] := hE.sel [1, 2, 3, 4, 6] rfl
    replace hE := hE.cast 4 rfl (show _ = Value.int .i64 (((i + 1) : Nat) : Int) from (congrArg _ (by omega)))
    replace hM := Mem.ownB (p := (t.take i) ++ [t.getD i 0]) (q := t.take (i + 1)) hM ((take_snoc (by omega)).symm)
    replace hM : Mem _ _ w4 [_, _] := hM.pick [0, 1] rfl
    exact ⟨i + 1, ⟨by omega, _, hE.sel [1, 2, 3, 4] rfl, hM⟩, by omega⟩
  · replace hE := hE'; clear hE'
    replace hb6 := of_decide_eq_false hb6
    replace hb6 : ¬ (i < 32) := by omega
    obtain rfl : 32 = i := by omega
    replace hM := Mem.ownB (p := t.take 32) (q := t) hM (take_all hl_t)
    refine wp_cond_false (hE.eval rfl) ?_
    refine wp_exit ?_
    refine q_then_e ?_
    refine q_then_e ?_
    refine q_block_x ?_
    refine hK3 _ _ ?_
    refine wp_seq_k (fun K7 hK7 => ?_)
    refine wp_plain [true, true] rfl rfl ?_
    refine s_move hE rfl rfl ?_; clear hE a; intro a hE
    refine s_assign hE rfl rfl ?_; clear hE a; intro a hE
    refine q_nil ?_
    replace hE : Env a 16 [(1, _), (2, _), (3, _), (4, _), (6, _)] := hE.sel [1, 2, 3, 4, 6] rfl
    refine hK7 _ _ ?_
    refine wp_ret ?_
    refine f_ret1 hE rfl rfl ?_
    exact ⟨_, (by first | rfl | (simp; done)), hM.pick [0] rfl⟩
theorem rb4_c (t : List UInt8) (w : World) (hl_t : t.length = 32) : Calls Try.prog 47 #[.agg (bv t).toArray] w fun e w' => ∃ v', e = .returned (v') ∧ Mem w [] w' [own v' 1 t.length (bv t)] := by
  have hM := Mem.start0 w
  refine f_enter 16 Try.func47 rfl rfl rfl ?_
  intro a hE
  replace hE : Env a 16 [(0, _)] := hE
  refine wp_seq_k (fun K1 hK1 => ?_)
  refine wp_plain [false, true] rfl rfl ?_
  refine s_box (ss := [bv t]) [32] hE hM rfl (by simp [Value.cells]) (by simp [*]) rfl ?_; clear hE a; intro a b1 w1 hE hM'
  clear hM; have hM := hM'; clear hM'
  refine s_assign hE rfl rfl ?_; clear hE a; intro a hE
  refine q_nil ?_
  replace hE : Env a 16 [(1, _), (2, _)] := hE.sel [1, 2] rfl
  refine hK1 _ _ ?_
  refine wp_seq_k (fun K2 hK2 => ?_)
  refine wp_plain [true] rfl rfl ?_
  refine s_assign hE rfl rfl ?_; clear hE a; intro a hE
  refine q_nil ?_
  refine hK2 _ _ ?_
  refine wp_seq_k (fun K3 hK3 => ?_)
  refine wp_seq_k (fun K4 hK4 => ?_)
  refine wp_plain [true] rfl rfl ?_
  refine s_assign hE rfl rfl ?_; clear hE a; intro a hE
  refine q_nil ?_
  refine hK4 _ _ ?_
  refine wp_block ?_
  replace hM := hM.addNil 1
  replace hM := hM.ownEq (m' := ([] : List UInt8).length) (cs' := bv []) rfl rfl
  replace hM := Mem.ownB (p := ([] : List UInt8)) (q := t.take 0) hM (by first | with_reducible rfl | (simp; done) | (simp [*]; done) | rfl)
  refine c_loop (fun (i : Nat) a w' => i ≤ 32 ∧ ∃ vl3, Env a 16 [(1, .pointer (some ⟨b1, 0, none⟩)), (2, .slice none 0 0), (3, vl3), (4, .int .i64 ((i : Nat) : Int))] ∧ Mem w [] w' [own vl3 1 (t.take i).length (bv (t.take i)), blk b1 [bv t] [32] 27]) (fun i => 32 - i) 0 ⟨Nat.zero_le _, _, hE.sel [1, 2, 3, 4] rfl, hM⟩ ?_
  clear hE hM a; rintro i a w2 ⟨hi, vl3, hE, hM⟩
  refine wp_seq_k (fun K5 hK5 => ?_)
  refine wp_seq_k (fun K6 hK6 => ?_)
  refine wp_plain [true, true] rfl rfl ?_
  refine s_move hE rfl rfl ?_; clear hE a; intro a hE
  refine s_bin hE rfl rfl bin_lss rfl ?_; clear hE a; intro a hE
  refine q_nil ?_
  replace hE : Env a 16 [(1, _), (2, _), (3, _), (4, _), (6, _)] := hE.sel [1, 2, 3, 4, 6] rfl
  refine hK6 _ _ ?_
  refine hE.split 6 rfl (fun hb6 hE' => ?_) (fun hb6 hE' => ?_)
  · replace hE := hE'; clear hE'
    replace hb6 := of_decide_eq_true hb6
    replace hb6 : i < 32 := by omega
    replace hb6 : i < 32 := by omega
    refine wp_cond_true (hE.eval rfl) ?_
    refine wp_skip ?_
    refine hK5 _ _ ?_
    refine wp_seq_k (fun K7 hK7 => ?_)
    refine wp_block ?_
    refine wp_plain [true, true, true, true, false, false, true] rfl rfl ?_
    refine s_move hE rfl rfl ?_; clear hE a; intro a hE
    refine s_move hE rfl rfl ?_; clear hE a; intro a hE
    refine s_indexArr (j := i) hE rfl rfl arr27 (by first | rfl | omega) (by first | omega | decide) rfl ?_; clear hE a; intro a hE
    refine s_loadIdx (j := i) hE rfl (by omega) (hM.get 1 rfl) (bv_get (by have hl_ : t.length = 32 := hl_t; first | omega | (rw [bv_length]; omega) | (simp; omega))) one5 (by intro X h; cases h) rfl ?_; clear hE a; intro a hE
    refine s_buildSlice (xs := [.tmp 12]) (bv [t.getD i 0]) hE hM sl55 rfl rfl rfl (by intro v hv; first | (cases hv; done) | (obtain ⟨x, _, rfl⟩ := List.mem_map.1 (show v ∈ bv [t.getD i 0] from hv); rfl)) rfl rfl rfl rfl ?_; clear hE a; intro a v13 w3 hE hM'
    clear hM; have hM := hM'; clear hM'
    replace hM := hM.ownEq (m' := [t.getD i 0].length) (cs' := bv [t.getD i 0]) rfl rfl
    replace hM : Mem _ _ w3 [_, _, _] := hM.pick [1, 0, 2] rfl
    obtain ⟨cq1, hq1⟩ := own_rd (hM.get 1 rfl)
    refine s_append hE rfl rfl hM sl55 (Src.rd Try.underlying55 hq1 (bv_one _)) (len47 (by have hl_x : (t.take i).length = i := (by simp; omega); have hl_y : [t.getD i 0].length = 1 := (by first | (simp; done) | (simp [*]; done) | (simp; omega)); first | omega | (simp; done) | (simp; omega))) (by have hl_x : (t.take i).length = i := (by simp; omega); have hl_y : [t.getD i 0].length = 1 := (by first | (simp; done) | (simp [*]; done) | (simp; omega)); first | omega | (simp; done) | (simp; omega)) (by intro X h; cases h) rfl ?_; clear hE a; intro a v14 w4 hE hM'; clear hM; have hM := hM'; clear hM'
    replace hM := Mem.ownApp (p := t.take i) (q := [t.getD i 0]) hM (by first | rfl | (simp; done))
    replace hM : Mem _ _ w4 [_, _] := hM.pick [0, 2] rfl
    refine s_assign hE rfl rfl ?_; clear hE a; intro a hE
    refine q_nil ?_
    replace hE : Env a 16 [(1, _), (2, _), (3, _), (4, _), (6, _)] := hE.sel [1, 2, 3, 4, 6] rfl
    refine q_block_n ?_
    refine hK7 _ _ ?_
    refine wp_plain [true, true, true] rfl rfl ?_
    refine s_move hE rfl rfl ?_; clear hE a; intro a hE
    refine s_bin hE rfl rfl (show Bin _ _ _ _ _ (.int .i64 ((i + 1 : Nat) : Int)) from bin_add (by rw [wrap_i64 (by omega) (by omega)]; omega)) rfl ?_; clear hE a; intro a hE
    refine s_assign hE rfl rfl ?_; clear hE a; intro a hE
    refine q_nil ?_
    replace hE : Env a 16 [(1, _), (2, _), (3, _), (4, _), (6, _)] := hE.sel [1, 2, 3, 4, 6] rfl
    replace hE := hE.cast 4 rfl (show _ = Value.int .i64 (((i + 1) : Nat) : Int) from (congrArg _ (by omega)))
    replace hM := Mem.ownB (p := (t.take i) ++ [t.getD i 0]) (q := t.take (i + 1)) hM ((take_snoc (by omega)).symm)
    replace hM : Mem _ _ w4 [_, _] := hM.pick [0, 1] rfl
    exact ⟨i + 1, ⟨by omega, _, hE.sel [1, 2, 3, 4] rfl, hM⟩, by omega⟩
  · replace hE := hE'; clear hE'
    replace hb6 := of_decide_eq_false hb6
    replace hb6 : ¬ (i < 32) := by omega
    obtain rfl : 32 = i := by omega
    replace hM := Mem.ownB (p := t.take 32) (q := t) hM (take_all hl_t)
    refine wp_cond_false (hE.eval rfl) ?_
    refine wp_exit ?_
    refine q_then_e ?_
    refine q_then_e ?_
    refine q_block_x ?_
    refine hK3 _ _ ?_
    refine wp_seq_k (fun K7 hK7 => ?_)
    refine wp_plain [true, true] rfl rfl ?_
    refine s_move hE rfl rfl ?_; clear hE a; intro a hE
    refine s_assign hE rfl rfl ?_; clear hE a; intro a hE
    refine q_nil ?_
    replace hE : Env a 16 [(1, _), (2, _), (3, _), (4, _), (6, _)] := hE.sel [1, 2, 3, 4, 6] rfl
    refine hK7 _ _ ?_
    refine wp_ret ?_
    refine f_ret1 hE rfl rfl ?_
    exact ⟨_, (by first | rfl | (simp; done)), hM.pick [0] rfl⟩
theorem rboxput_c (v : Value) (bs : List UInt8) (c : Nat) (x : List UInt8) (y : List UInt8) (w : World) (hr_bs : (rd v 1 bs.length c (bv bs)).holds w) (hl_x : x.length = 32) (hl_y : y.length = 32) (hb : bs.length + 64 ≤ 140737488355328) : Calls Try.prog 36 #[v, .agg ([bv x, bv y] : List (List Value)).flatten.toArray] w fun e w' => ∃ v', e = .returned (v') ∧ Mem w [] w' [own v' 1 ((bs ++ x) ++ y).length (bv ((bs ++ x) ++ y))] := by
  have hM : Mem w [] w [rd v 1 bs.length c (bv bs)] := Mem.startR w (fun g hg => by
    simp only [List.mem_cons, List.not_mem_nil, or_false] at hg
    rcases hg with rfl
    · exact ⟨hr_bs, rfl⟩)
  refine f_enter 19 Try.func36 rfl rfl rfl ?_
  intro a hE
  replace hE : Env a 19 [(0, _), (1, _)] := hE
  refine wp_seq_k (fun K1 hK1 => ?_)
  refine wp_plain [false, true] rfl rfl ?_
  refine s_box (ss := [bv x, bv y]) [32, 32] hE hM rfl rfl (by simp [*]) rfl ?_; clear hE a; intro a b3 w1 hE hM'
  clear hM; have hM := hM'; clear hM'
  refine s_assign hE rfl rfl ?_; clear hE a; intro a hE
  refine q_nil ?_
  replace hE : Env a 19 [(0, _), (3, _), (4, _)] := hE.sel [0, 3, 4] rfl
  refine hK1 _ _ ?_
  refine wp_seq_k (fun K2 hK2 => ?_)
  refine wp_plain [true] rfl rfl ?_
  refine s_assign hE rfl rfl ?_; clear hE a; intro a hE
  refine q_nil ?_
  refine hK2 _ _ ?_
  refine wp_seq_k (fun K3 hK3 => ?_)
  refine wp_plain [true, true, false, true] rfl rfl ?_
  refine s_move hE rfl rfl ?_; clear hE a; intro a hE
  refine s_move hE rfl rfl ?_; clear hE a; intro a hE
  replace hM := hM.addNil 1
  replace hM := hM.ownEq (m' := ([] : List UInt8).length) (cs' := bv []) rfl rfl
  refine s_append hE rfl rfl hM sl55 (Src.rd Try.underlying55 (hM.get 2 rfl) (bv_one _)) (len47 (by have hl_x : ([] : List UInt8).length = 0 := (by first | (simp; done) | (simp [*]; done) | (simp; omega)); first | omega | (simp; done) | (simp; omega))) (by have hl_x : ([] : List UInt8).length = 0 := (by first | (simp; done) | (simp [*]; done) | (simp; omega)); first | omega | (simp; done) | (simp; omega)) (by intro X h; cases h) rfl ?_; clear hE a; intro a v8 w2 hE hM'; clear hM; have hM := hM'; clear hM'
  replace hM := Mem.ownNil (q := bs) hM rfl (by first | rfl | (simp; done))
  refine s_assign hE rfl rfl ?_; clear hE a; intro a hE
  refine q_nil ?_
  replace hE : Env a 19 [(3, _), (4, _), (5, _)] := hE.sel [3, 4, 5] rfl
  refine hK3 _ _ ?_
  refine wp_seq_k (fun K4 hK4 => ?_)
  refine wp_plain [true, true, true, false, false, true] rfl rfl ?_
  refine s_move hE rfl rfl ?_; clear hE a; intro a hE
  refine s_fieldAddr hE rfl fo29_0 rfl ?_; clear hE a; intro a hE
  refine s_loadN hE rfl (hM.get 1 rfl) row26 rfl (by intro X h; cases h) rfl ?_; clear hE a; intro a hE
  refine s_call hE rfl Try.call46 (rb10_c x _ hl_x) rfl ?_
  rintro e w3 ⟨v12, rfl, hN⟩
  refine ⟨_, rfl, trivial, ?_⟩; clear hE a; intro a hE
  replace hM : Mem _ _ w3 [_, _, _, _] := hM.call0 hN ⟨rfl, trivial⟩; clear hN
  replace hM : Mem _ _ w3 [_, _, _, _] := hM.pick [1, 0, 2, 3] rfl
  obtain ⟨cq1, hq1⟩ := own_rd (hM.get 1 rfl)
  refine s_append hE rfl rfl hM sl55 (Src.rd Try.underlying55 hq1 (bv_one _)) (len47 (by have hl_y : x.length = 32 := (by first | assumption | simp [*]); first | omega | (simp; done) | (simp; omega))) (by have hl_y : x.length = 32 := (by first | assumption | simp [*]); first | omega | (simp; done) | (simp; omega)) (by intro X h; cases h) rfl ?_; clear hE a; intro a v13 w4 hE hM'; clear hM; have hM := hM'; clear hM'
  replace hM := Mem.ownApp (p := bs) (q := x) hM (by first | rfl | (simp; done))
  refine s_assign hE rfl rfl ?_; clear hE a; intro a hE
  refine q_nil ?_
  replace hE : Env a 19 [(3, _), (4, _), (5, _)] := hE.sel [3, 4, 5] rfl
  refine hK4 _ _ ?_
  refine wp_seq_k (fun K5 hK5 => ?_)
  refine wp_plain [true, true, true, false, false, true] rfl rfl ?_
  refine s_move hE rfl rfl ?_; clear hE a; intro a hE
  refine s_fieldAddr hE rfl fo29_1 rfl ?_; clear hE a; intro a hE
  refine s_loadN hE rfl (hM.get 2 rfl) row27 rfl (by intro X h; cases h) rfl ?_; clear hE a; intro a hE
  refine s_call hE rfl Try.call47 (rb4_c y _ hl_y) rfl ?_
  rintro e w5 ⟨v17, rfl, hN⟩
  refine ⟨_, rfl, trivial, ?_⟩; clear hE a; intro a hE
  replace hM : Mem _ _ w5 [_, _, _, _, _] := hM.call0 hN ⟨rfl, trivial⟩; clear hN
  replace hM : Mem _ _ w5 [_, _, _, _, _] := hM.pick [1, 0, 2, 3, 4] rfl
  obtain ⟨cq2, hq2⟩ := own_rd (hM.get 1 rfl)
  refine s_append hE rfl rfl hM sl55 (Src.rd Try.underlying55 hq2 (bv_one _)) (len47 (by have hl_x : (bs ++ x).length = bs.length + 32 := (by have hl_q : x.length = 32 := (by first | assumption | simp [*]); rw [List.length_append]; omega); have hl_y : y.length = 32 := (by first | assumption | simp [*]); first | omega | (simp; done) | (simp; omega))) (by have hl_x : (bs ++ x).length = bs.length + 32 := (by have hl_q : x.length = 32 := (by first | assumption | simp [*]); rw [List.length_append]; omega); have hl_y : y.length = 32 := (by first | assumption | simp [*]); first | omega | (simp; done) | (simp; omega)) (by intro X h; cases h) rfl ?_; clear hE a; intro a v18 w6 hE hM'; clear hM; have hM := hM'; clear hM'
  replace hM := Mem.ownApp (p := bs ++ x) (q := y) hM (by first | rfl | (simp; done))
  refine s_assign hE rfl rfl ?_; clear hE a; intro a hE
  refine q_nil ?_
  replace hE : Env a 19 [(3, _), (4, _), (5, _)] := hE.sel [3, 4, 5] rfl
  refine hK5 _ _ ?_
  refine wp_ret ?_
  refine f_ret1 hE rfl rfl ?_
  exact ⟨_, (by first | rfl | (simp; done)), hM.pick [0] rfl⟩
theorem rboxget_c (v : Value) (bs : List UInt8) (c : Nat) (w : World) (hr_bs : (rd v 1 bs.length c (bv bs)).holds w) (hl : 64 ≤ bs.length) (hb : bs.length ≤ 140737488355328) : Calls Try.prog 30 #[v] w fun e w' => ∃ v', e = .returned (.tuple #[.agg ([bv (bs.take 32), bv ((bs.drop 32).take 32)] : List (List Value)).flatten.toArray, v', .int .i64 0]) ∧ Mem w [] w' [own v' 1 (bs.drop 64).length (bv (bs.drop 64))] := by
  have hM : Mem w [] w [rd v 1 bs.length c (bv bs)] := Mem.startR w (fun g hg => by
    simp only [List.mem_cons, List.not_mem_nil, or_false] at hg
    rcases hg with rfl
    · exact ⟨hr_bs, rfl⟩)
  refine f_enter 37 Try.func30 rfl rfl rfl ?_
  intro a hE
  replace hE : Env a 37 [(0, _)] := hE
  refine wp_seq_k (fun K1 hK1 => ?_)
  refine wp_plain [false, true, true] rfl rfl ?_
  refine s_alloc [32, 32] hE hM zero29 rfl rfl ?_; clear hE a; intro a b2 w1 hE hM'
  clear hM; have hM := hM'; clear hM'
  refine s_assign hE rfl rfl ?_; clear hE a; intro a hE
  refine s_assign hE rfl rfl ?_; clear hE a; intro a hE
  refine q_nil ?_
  refine hK1 _ _ ?_
  refine wp_seq_k (fun K2 hK2 => ?_)
  refine wp_seq_k (fun K3 hK3 => ?_)
  refine wp_plain [true, true, true] rfl rfl ?_
  refine s_move hE rfl rfl ?_; clear hE a; intro a hE
  refine s_len hE rfl Try.underlying55 (rd_slice (hM.get 1 rfl)) rfl ?_; clear hE a; intro a hE
  refine s_bin hE rfl rfl bin_lss rfl ?_; clear hE a; intro a hE
  refine q_nil ?_
  replace hE : Env a 37 [(0, _), (2, _), (3, _), (4, _), (10, _)] := hE.sel [0, 2, 3, 4, 10] rfl
  refine hK3 _ _ ?_
  replace hE := hE.cast 10 rfl (show _ = Value.bool false from (congrArg Value.bool (decide_eq_false (by omega))))
  refine wp_cond_false (hE.eval rfl) ?_
  refine wp_skip ?_
  refine hK2 _ _ ?_
  refine wp_seq_k (fun K4 hK4 => ?_)
  refine wp_plain [false] rfl rfl ?_
  refine s_alloc [32, 32] hE hM zero29 rfl rfl ?_; clear hE a; intro a b5 w2 hE hM'
  clear hM; have hM := hM'; clear hM'
  refine q_nil ?_
  refine hK4 _ _ ?_
  refine wp_seq_k (fun K5 hK5 => ?_)
  refine wp_seq_k (fun K6 hK6 => ?_)
  refine wp_plain [true] rfl rfl ?_
  refine s_assign hE rfl rfl ?_; clear hE a; intro a hE
  refine q_nil ?_
  refine hK6 _ _ ?_
  refine wp_block ?_
  replace hM := Mem.blkEq (ss := [bv (List.replicate 32 (0 : UInt8)), bv (List.replicate 32 (0 : UInt8))]) (ss' := [bv ((bs.take 32).take 0 ++ List.replicate (32 - 0) 0), bv (((bs.drop 32).take 32).take 0 ++ List.replicate (32 - 0) 0)]) hM (by simp)
  refine c_loop (fun (k : Nat) a w' => k ≤ 32 ∧ Env a 37 [(0, v), (2, .pointer (some ⟨b2, 0, none⟩)), (3, .slice none 0 0), (4, .int .i64 0), (5, .pointer (some ⟨b5, 0, none⟩)), (6, .int .i64 ((k : Nat) : Int)), (10, .bool false)] ∧ Mem w [] w' [blk b5 [bv ((bs.take 32).take k ++ List.replicate (32 - k) 0), bv (((bs.drop 32).take 32).take k ++ List.replicate (32 - k) 0)] [32, 32] 29, blk b2 [bv (List.replicate 32 (0 : UInt8)), bv (List.replicate 32 (0 : UInt8))] [32, 32] 29, rd v 1 bs.length c (bv bs)]) (fun k => 32 - k) 0 ⟨Nat.zero_le _, hE.sel [0, 2, 3, 4, 5, 6, 10] rfl, hM⟩ ?_
  clear hE hM a; rintro k a w3 ⟨hk, hE, hM⟩
  refine wp_seq_k (fun K7 hK7 => ?_)
  refine wp_seq_k (fun K8 hK8 => ?_)
  refine wp_plain [true, true] rfl rfl ?_
  refine s_move hE rfl rfl ?_; clear hE a; intro a hE
  refine s_bin hE rfl rfl bin_lss rfl ?_; clear hE a; intro a hE
  refine q_nil ?_
  replace hE : Env a 37 [(0, _), (2, _), (3, _), (4, _), (5, _), (6, _), (10, _), (13, _)] := hE.sel [0, 2, 3, 4, 5, 6, 10, 13] rfl
  refine hK8 _ _ ?_
  refine hE.split 13 rfl (fun hb13 hE' => ?_) (fun hb13 hE' => ?_)
  · replace hE := hE'; clear hE'
    replace hb13 := of_decide_eq_true hb13
    replace hb13 : k < 32 := by omega
    replace hb13 : k < 32 := by omega
    refine wp_cond_true (hE.eval rfl) ?_
    refine wp_skip ?_
    refine hK7 _ _ ?_
    refine wp_seq_k (fun K9 hK9 => ?_)
    refine wp_block ?_
    refine wp_seq_k (fun K10 hK10 => ?_)
    refine wp_plain [true, true, true, true, true, true, true, false] rfl rfl ?_
    refine s_move hE rfl rfl ?_; clear hE a; intro a hE
    refine s_move hE rfl rfl ?_; clear hE a; intro a hE
    refine s_move hE rfl rfl ?_; clear hE a; intro a hE
    refine s_indexRd (j := k) hE rfl (hM.get 2 rfl) rfl slt55 (by first | rfl | omega) (by first | omega | (rw [bv_length]; omega) | (simp; omega)) rfl ?_; clear hE a; intro a p19 hE hc19 hp19
    rw [bv_elem (by first | omega | (rw [bv_length]; omega) | (simp; omega))] at hc19
    refine s_loadAt1 hE rfl hc19 one5 (by intro X h; cases h) rfl ?_; clear hE a; intro a hE
    refine s_fieldAddr hE rfl fo29_0 rfl ?_; clear hE a; intro a hE
    refine s_indexArr (j := k) hE rfl rfl arr26 (by first | rfl | omega) (by first | omega | decide) rfl ?_; clear hE a; intro a hE
    refine s_storePart8 (j := k) (g := (bs.take 32).take k ++ List.replicate (32 - k) 0) (c := bs.getD k 0) 0 hE rfl (by first | rfl | omega | (simp; done) | (simp; omega)) rfl hM sz5 rfl (by have hl_ : ((bs.take 32).take k ++ List.replicate (32 - k) 0).length = 32 := (cpy_len (by simp; omega) (by omega)); first | omega | (rw [bv_length]; omega) | (simp; omega)) (by intro X h; cases h) ?_; intro w4 hM'; clear hM; have hM := hM'; clear hM'
    simp only [List.set_cons_zero, List.set_cons_succ] at hM
    refine q_nil ?_
    replace hE : Env a 37 [(0, _), (2, _), (3, _), (4, _), (5, _), (6, _), (10, _), (13, _)] := hE.sel [0, 2, 3, 4, 5, 6, 10, 13] rfl
    refine hK10 _ _ ?_
    refine wp_plain [true, true, true, true, true, true, true, true, false] rfl rfl ?_
    refine s_move hE rfl rfl ?_; clear hE a; intro a hE
    refine s_move hE rfl rfl ?_; clear hE a; intro a hE
    refine s_move hE rfl rfl ?_; clear hE a; intro a hE
    refine s_bin hE rfl rfl (show Bin _ _ _ _ _ (.int .i64 ((32 + k : Nat) : Int)) from bin_add (by rw [wrap_i64 (by omega) (by omega)]; omega)) rfl ?_; clear hE a; intro a hE
    refine s_indexRd (j := 32 + k) hE rfl (hM.get 2 rfl) rfl slt55 (by first | rfl | omega) (by first | omega | (rw [bv_length]; omega) | (simp; omega)) rfl ?_; clear hE a; intro a p27 hE hc27 hp27
    rw [bv_elem (by first | omega | (rw [bv_length]; omega) | (simp; omega))] at hc27
    refine s_loadAt1 hE rfl hc27 one5 (by intro X h; cases h) rfl ?_; clear hE a; intro a hE
    refine s_fieldAddr hE rfl fo29_1 rfl ?_; clear hE a; intro a hE
    refine s_indexArr (j := k) hE rfl rfl arr27 (by first | rfl | omega) (by first | omega | decide) rfl ?_; clear hE a; intro a hE
    refine s_storePart8 (j := k) (g := ((bs.drop 32).take 32).take k ++ List.replicate (32 - k) 0) (c := bs.getD (32 + k) 0) 1 hE rfl (by first | rfl | omega | (simp; done) | (simp; omega)) rfl hM sz5 rfl (by have hl_ : (((bs.drop 32).take 32).take k ++ List.replicate (32 - k) 0).length = 32 := (cpy_len (by simp; omega) (by omega)); first | omega | (rw [bv_length]; omega) | (simp; omega)) (by intro X h; cases h) ?_; intro w5 hM'; clear hM; have hM := hM'; clear hM'
    simp only [List.set_cons_zero, List.set_cons_succ] at hM
    refine q_nil ?_
    replace hE : Env a 37 [(0, _), (2, _), (3, _), (4, _), (5, _), (6, _), (10, _), (13, _)] := hE.sel [0, 2, 3, 4, 5, 6, 10, 13] rfl
    refine q_block_n ?_
    refine hK9 _ _ ?_
    refine wp_plain [true, true, true] rfl rfl ?_
    refine s_move hE rfl rfl ?_; clear hE a; intro a hE
    refine s_bin hE rfl rfl (show Bin _ _ _ _ _ (.int .i64 ((k + 1 : Nat) : Int)) from bin_add (by rw [wrap_i64 (by omega) (by omega)]; omega)) rfl ?_; clear hE a; intro a hE
    refine s_assign hE rfl rfl ?_; clear hE a; intro a hE
    refine q_nil ?_
    replace hE : Env a 37 [(0, _), (2, _), (3, _), (4, _), (5, _), (6, _), (10, _), (13, _)] := hE.sel [0, 2, 3, 4, 5, 6, 10, 13] rfl
    replace hE := hE.cast 6 rfl (show _ = Value.int .i64 (((k + 1) : Nat) : Int) from (congrArg _ (by omega)))
    replace hM := Mem.blkEq (ss := [bv (((bs.take 32).take k ++ List.replicate (32 - k) 0).set k (bs.getD k 0)), bv ((((bs.drop 32).take 32).take k ++ List.replicate (32 - k) 0).set k (bs.getD (32 + k) 0))]) (ss' := [bv ((bs.take 32).take (k + 1) ++ List.replicate (32 - (k + 1)) 0), bv (((bs.drop 32).take 32).take (k + 1) ++ List.replicate (32 - (k + 1)) 0)]) hM (by rw [getD_tk (k := 32) (by omega), getD_dt (k := 32) (by omega), cpy_set (by simp; omega) (by simp; omega), cpy_set (by simp; omega) (by simp; omega)])
    replace hM : Mem _ _ w5 [_, _, _] := hM.pick [0, 1, 2] rfl
    exact ⟨k + 1, ⟨by omega, hE.sel [0, 2, 3, 4, 5, 6, 10] rfl, hM⟩, by omega⟩
  · replace hE := hE'; clear hE'
    replace hb13 := of_decide_eq_false hb13
    replace hb13 : ¬ (k < 32) := by omega
    obtain rfl : 32 = k := by omega
    replace hM := Mem.blkEq (ss := [bv ((bs.take 32).take 32 ++ List.replicate (32 - 32) 0), bv (((bs.drop 32).take 32).take 32 ++ List.replicate (32 - 32) 0)]) (ss' := [bv (bs.take 32), bv ((bs.drop 32).take 32)]) hM (by rw [cpy_end (by simp; omega), cpy_end (by simp; omega)])
    refine wp_cond_false (hE.eval rfl) ?_
    refine wp_exit ?_
    refine q_then_e ?_
    refine q_then_e ?_
    refine q_block_x ?_
    refine hK5 _ _ ?_
    refine wp_seq_k (fun K9 hK9 => ?_)
    refine wp_plain [true] rfl rfl ?_
    refine s_assign hE rfl rfl ?_; clear hE a; intro a hE
    refine q_nil ?_
    refine hK9 _ _ ?_
    refine wp_seq_k (fun K10 hK10 => ?_)
    refine wp_plain [true, true, true, false, true] rfl rfl ?_
    refine s_move hE rfl rfl ?_; clear hE a; intro a hE
    refine s_move hE rfl rfl ?_; clear hE a; intro a hE
    have hcap33 := rd_len (hM.get 2 rfl)
    refine s_slice (l := 64) (h := bs.length) (mx' := c) hE rfl (hM.get 2 rfl) slt55 ⟨_, rfl⟩ rfl rfl (by simp) (by first | omega | assumption | (simp; done) | (simp; omega) | decide) (by first | omega | assumption | (simp; done) | (simp; omega) | decide) (by first | omega | assumption | (simp; done) | (simp; omega) | decide) (by first | omega | assumption | (simp; done) | (simp; omega) | decide) rfl ?_; clear hE a; intro a v33 hE hr33 hvb33
    replace hr33 : (rd v33 1 (bs.drop 64).length (c - 64) (bv (bs.drop 64))).holds _ := rd_drop rfl (by first | omega | assumption | (simp; done) | (simp; omega) | decide) hr33
    replace hM := hM.addPart 2 rfl hr33 hvb33; clear hr33
    replace hM := hM.addNil 1
    replace hM := hM.ownEq (m' := ([] : List UInt8).length) (cs' := bv []) rfl rfl
    refine s_append hE rfl rfl hM sl55 (Src.rd Try.underlying55 (hM.get 1 rfl) (bv_one _)) (len47 (by have hl_x : ([] : List UInt8).length = 0 := (by first | (simp; done) | (simp [*]; done) | (simp; omega)); have hl_y : (bs.drop 64).length = bs.length - 64 := (by first | (simp only [List.length_take, List.length_drop]; omega) | (simp; try omega)); first | omega | (simp; done) | (simp; omega))) (by have hl_x : ([] : List UInt8).length = 0 := (by first | (simp; done) | (simp [*]; done) | (simp; omega)); have hl_y : (bs.drop 64).length = bs.length - 64 := (by first | (simp only [List.length_take, List.length_drop]; omega) | (simp; try omega)); first | omega | (simp; done) | (simp; omega)) (by intro X h; cases h) rfl ?_; clear hE a; intro a v34 w4 hE hM'; clear hM; have hM := hM'; clear hM'
    replace hM := Mem.ownNil (q := bs.drop 64) hM rfl (by first | rfl | (simp; done))
    refine s_assign hE rfl rfl ?_; clear hE a; intro a hE
    refine q_nil ?_
    replace hE : Env a 37 [(0, _), (2, _), (3, _), (4, _), (5, _), (6, _), (7, _), (10, _), (13, _)] := hE.sel [0, 2, 3, 4, 5, 6, 7, 10, 13] rfl
    refine hK10 _ _ ?_
    refine wp_seq_k (fun K11 hK11 => ?_)
    refine wp_plain [true, true, false, true, true] rfl rfl ?_
    refine s_loadN hE rfl (hM.get 2 rfl) row29 rfl (by intro X h; cases h) rfl ?_; clear hE a; intro a hE
    replace hE := hE.cast 35 rfl (show _ = Value.agg ([bv (bs.take 32), bv ((bs.drop 32).take 32)] : List (List Value)).flatten.toArray from (by first | rfl | simp))
    refine s_move hE rfl rfl ?_; clear hE a; intro a hE
    replace hM : Mem _ _ w4 [_, _, _, _, _] := hM.pick [3, 0, 1, 2, 4] rfl
    refine s_storeSegs 0 2 (vss := [bv (bs.take 32), bv ((bs.drop 32).take 32)]) hE rfl rfl hM rfl sz29 (by have hl_s0 : (bs.take 32).length = 32 := (by simp; omega); have hl_s1 : ((bs.drop 32).take 32).length = 32 := (by simp; omega);  simp only [List.map_cons, List.map_nil, bv_length, List.length_cons, List.length_nil, List.take_succ_cons, List.take_zero, List.drop_zero, List.drop_succ_cons, hl_s0, hl_s1]) (by decide) rfl (one_fl ⟨bv_one _, bv_one _, trivial⟩) rfl (by intro X h; cases h) ?_; intro w5 hM'; clear hM; have hM := hM'; clear hM'
    simp only [List.take_zero, List.take_succ_cons, List.drop_zero, List.drop_succ_cons, List.take_nil, List.drop_nil, List.nil_append, List.append_nil, List.cons_append] at hM
    refine s_assign hE rfl rfl ?_; clear hE a; intro a hE
    refine s_assign hE rfl rfl ?_; clear hE a; intro a hE
    refine q_nil ?_
    replace hE : Env a 37 [(0, _), (2, _), (3, _), (4, _), (5, _), (6, _), (7, _), (10, _), (13, _)] := hE.sel [0, 2, 3, 4, 5, 6, 7, 10, 13] rfl
    refine hK11 _ _ ?_
    refine wp_ret ?_
    refine f_ret3 hE rfl (res_cellN rfl (hM.get 0 rfl) row29 rfl) rfl rfl ?_
    replace hM : Mem _ _ w5 [_, _, _, _, _] := hM.pick [1, 0, 2, 3, 4] rfl
    exact ⟨_, (by first | rfl | (simp; done)), hM.pick [0] rfl⟩
theorem rsame2_c (u : Value) (la : List (List UInt8)) (ca : Nat) (v : Value) (lb : List (List UInt8)) (cb : Nat) (w : World) (hr_la : (rd u 64 la.length ca (la.flatMap bv)).holds w) (ho_la : ∀ x, x ∈ la → x.length = 64) (hr_lb : (rd v 64 lb.length cb (lb.flatMap bv)).holds w) (ho_lb : ∀ x, x ∈ lb → x.length = 64) (hlx : la.length ≤ 1759218604390) : Calls Try.prog 12 #[u, v] w fun e w' => e = .returned (.bool (decide (la = lb))) ∧ Mem w [] w' [] := by
  have hM : Mem w [] w [rd u 64 la.length ca (la.flatMap bv), rd v 64 lb.length cb (lb.flatMap bv)] := Mem.startR w (fun g hg => by
    simp only [List.mem_cons, List.not_mem_nil, or_false] at hg
    rcases hg with rfl | rfl
    · exact ⟨hr_la, rfl⟩
    · exact ⟨hr_lb, rfl⟩)
  refine f_enter 26 Try.func12 rfl rfl rfl ?_
  intro a hE
  replace hE : Env a 26 [(0, _), (1, _)] := hE
  refine wp_seq_k (fun K1 hK1 => ?_)
  refine wp_plain [true] rfl rfl ?_
  refine s_assign hE rfl rfl ?_; clear hE a; intro a hE
  refine q_nil ?_
  refine hK1 _ _ ?_
  refine wp_seq_k (fun K2 hK2 => ?_)
  refine wp_seq_k (fun K3 hK3 => ?_)
  refine wp_plain [true, true, true, true, true] rfl rfl ?_
  refine s_move hE rfl rfl ?_; clear hE a; intro a hE
  refine s_len hE rfl Try.underlying40 (rd_slice (hM.get 0 rfl)) rfl ?_; clear hE a; intro a hE
  refine s_move hE rfl rfl ?_; clear hE a; intro a hE
  refine s_len hE rfl Try.underlying40 (rd_slice (hM.get 1 rfl)) rfl ?_; clear hE a; intro a hE
  refine s_bin hE rfl rfl bin_neq rfl ?_; clear hE a; intro a hE
  refine q_nil ?_
  replace hE : Env a 26 [(0, _), (1, _), (4, _), (10, _)] := hE.sel [0, 1, 4, 10] rfl
  refine hK3 _ _ ?_
  refine hE.split 10 rfl (fun hb10 hE' => ?_) (fun hb10 hE' => ?_)
  · replace hE := hE'; clear hE'
    replace hb10 := of_decide_eq_false (not_true hb10)
    replace hb10 : ¬ (la.length = lb.length) := by omega
    refine wp_cond_true (hE.eval rfl) ?_
    refine wp_seq_k (fun K4 hK4 => ?_)
    refine wp_plain [true] rfl rfl ?_
    refine s_assign hE rfl rfl ?_; clear hE a; intro a hE
    refine q_nil ?_
    refine hK4 _ _ ?_
    refine wp_ret ?_
    refine q_then_r ?_
    refine f_ret1 hE rfl rfl ?_
    exact ⟨(congrArg (fun b => Ending.returned (Value.bool b)) (decide_eq_false (fun e => hb10 (by rw [e]))).symm), hM.pick [] rfl⟩
  · replace hE := hE'; clear hE'
    replace hb10 := of_decide_eq_true (not_false' hb10)
    replace hb10 : la.length = lb.length := by omega
    have hll : la.length = lb.length := by omega
    refine wp_cond_false (hE.eval rfl) ?_
    refine wp_skip ?_
    refine hK2 _ _ ?_
    refine wp_seq_k (fun K4 hK4 => ?_)
    refine wp_seq_k (fun K5 hK5 => ?_)
    refine wp_plain [true] rfl rfl ?_
    refine s_assign hE rfl rfl ?_; clear hE a; intro a hE
    refine q_nil ?_
    refine hK5 _ _ ?_
    refine wp_block ?_
    refine c_loop (fun (i : Nat) a w' => i ≤ la.length ∧ la.take i = lb.take i ∧ Env a 26 [(0, u), (1, v), (4, .bool false), (5, .int .i64 ((i : Nat) : Int)), (10, .bool false)] ∧ Mem w [] w' [rd u 64 la.length ca (la.flatMap bv), rd v 64 lb.length cb (lb.flatMap bv)]) (fun i => la.length - i) 0 ⟨Nat.zero_le _, rfl, hE.sel [0, 1, 4, 5, 10] rfl, hM⟩ ?_
    clear hE hM a; rintro i a w1 ⟨hi, hpre, hE, hM⟩
    refine wp_seq_k (fun K6 hK6 => ?_)
    refine wp_seq_k (fun K7 hK7 => ?_)
    refine wp_plain [true, true, true, true] rfl rfl ?_
    refine s_move hE rfl rfl ?_; clear hE a; intro a hE
    refine s_move hE rfl rfl ?_; clear hE a; intro a hE
    refine s_len hE rfl Try.underlying40 (rd_slice (hM.get 0 rfl)) rfl ?_; clear hE a; intro a hE
    refine s_bin hE rfl rfl bin_lss rfl ?_; clear hE a; intro a hE
    refine q_nil ?_
    replace hE : Env a 26 [(0, _), (1, _), (4, _), (5, _), (10, _), (14, _)] := hE.sel [0, 1, 4, 5, 10, 14] rfl
    refine hK7 _ _ ?_
    refine hE.split 14 rfl (fun hb14 hE' => ?_) (fun hb14 hE' => ?_)
    · replace hE := hE'; clear hE'
      replace hb14 := of_decide_eq_true hb14
      replace hb14 : i < la.length := by omega
      replace hb14 : i < la.length := by omega
      refine wp_cond_true (hE.eval rfl) ?_
      refine wp_skip ?_
      refine hK6 _ _ ?_
      refine wp_seq_k (fun K8 hK8 => ?_)
      refine wp_block ?_
      refine wp_seq_k (fun K9 hK9 => ?_)
      refine wp_drawnM hM (by kernel_rfl) (fun _ => False) [(0, true), (1, true), (2, true), (3, true), (4, true), (5, true), (6, true), (7, true), (8, true)] [] (by kernel_rfl) rfl ?_
      intro w2 hM' hww2; clear hM; have hM := hM'; clear hM'
      refine s_move hE rfl rfl ?_; clear hE a; intro a hE
      refine s_move hE rfl rfl ?_; clear hE a; intro a hE
      refine s_indexRd (j := i) hE rfl (hM.get 0 rfl) rfl slt40 (by first | rfl | omega) (by omega) rfl ?_; clear hE a; intro a p19 hE hc19 hp19
      have hlj19 : i < la.length := (by omega)
      have hok19 := ho_la _ (getD_mem (d := (List.replicate 64 (0 : UInt8))) hlj19)
      rw [flat_elem (d := (List.replicate 64 (0 : UInt8))) (fun x hx => ((bv_length _).trans (ho_la x hx))) hlj19] at hc19
      refine s_loadAtN hE rfl hc19 (by rw [((bv_length _).trans hok19)]; exact row59) (by intro X h; cases h; simp) rfl ?_; clear hE a; intro a hE
      replace hE := hE.cast 20 rfl (show _ = Value.agg (bv (la.getD i (List.replicate 64 (0 : UInt8)))).toArray from rfl)
      refine s_move hE rfl rfl ?_; clear hE a; intro a hE
      refine s_move hE rfl rfl ?_; clear hE a; intro a hE
      refine s_indexRd (j := i) hE rfl (hM.get 1 rfl) rfl slt40 (by first | rfl | omega) (by omega) rfl ?_; clear hE a; intro a p23 hE hc23 hp23
      have hlj23 : i < lb.length := (by omega)
      have hok23 := ho_lb _ (getD_mem (d := (List.replicate 64 (0 : UInt8))) hlj23)
      rw [flat_elem (d := (List.replicate 64 (0 : UInt8))) (fun x hx => ((bv_length _).trans (ho_lb x hx))) hlj23] at hc23
      refine s_loadAtN hE rfl hc23 (by rw [((bv_length _).trans hok23)]; exact row59) (by intro X h; cases h; simp) rfl ?_; clear hE a; intro a hE
      replace hE := hE.cast 24 rfl (show _ = Value.agg (bv (lb.getD i (List.replicate 64 (0 : UInt8)))).toArray from rfl)
      refine s_bin hE rfl rfl (eqa59 hok19 hok23).2 rfl ?_; clear hE a; intro a hE
      refine q_nil ?_
      replace hE : Env a 26 [(0, _), (1, _), (4, _), (5, _), (10, _), (14, _), (25, _)] := hE.sel [0, 1, 4, 5, 10, 14, 25] rfl
      refine hK9 _ _ ?_
      refine hE.split 25 rfl (fun hb25 hE' => ?_) (fun hb25 hE' => ?_)
      · replace hE := hE'; clear hE'
        replace hb25 := of_decide_eq_false (not_true hb25)
        have hne : la ≠ lb := fun e => hb25 (by rw [e])
        refine wp_cond_true (hE.eval rfl) ?_
        refine wp_seq_k (fun K10 hK10 => ?_)
        refine wp_plain [true] rfl rfl ?_
        refine s_assign hE rfl rfl ?_; clear hE a; intro a hE
        refine q_nil ?_
        refine hK10 _ _ ?_
        refine wp_ret ?_
        refine q_block_r ?_
        refine q_then_r ?_
        refine q_then_r ?_
        refine q_block_r ?_
        refine q_then_r ?_
        refine f_ret1 hE rfl rfl ?_
        exact ⟨(congrArg (fun b => Ending.returned (Value.bool b)) (decide_eq_false hne).symm), hM.pick [] rfl⟩
      · replace hE := hE'; clear hE'
        replace hb25 := of_decide_eq_true (not_false' hb25)
        have hst : la.take (i + 1) = lb.take (i + 1) := by
          rw [take_snocG (d := (List.replicate 64 (0 : UInt8))) (by omega), take_snocG (d := (List.replicate 64 (0 : UInt8))) (by omega), hpre]
          exact congrArg (fun x => lb.take i ++ [x]) hb25
        refine wp_cond_false (hE.eval rfl) ?_
        refine wp_skip ?_
        refine q_block_n ?_
        refine hK8 _ _ ?_
        refine wp_plain [true, true, true] rfl rfl ?_
        refine s_move hE rfl rfl ?_; clear hE a; intro a hE
        refine s_bin hE rfl rfl (show Bin _ _ _ _ _ (.int .i64 ((i + 1 : Nat) : Int)) from bin_add (by rw [wrap_i64 (by omega) (by omega)]; omega)) rfl ?_; clear hE a; intro a hE
        refine s_assign hE rfl rfl ?_; clear hE a; intro a hE
        refine q_nil ?_
        replace hE : Env a 26 [(0, _), (1, _), (4, _), (5, _), (10, _), (14, _), (25, _)] := hE.sel [0, 1, 4, 5, 10, 14, 25] rfl
        replace hE := hE.cast 5 rfl (show _ = Value.int .i64 (((i + 1) : Nat) : Int) from (congrArg _ (by omega)))
        replace hM : Mem _ _ w2 [_, _] := hM.pick [0, 1] rfl
        exact ⟨i + 1, ⟨by omega, hst, hE.sel [0, 1, 4, 5, 10] rfl, hM⟩, by omega⟩
    · replace hE := hE'; clear hE'
      replace hb14 := of_decide_eq_false hb14
      replace hb14 : ¬ (i < la.length) := by omega
      obtain rfl : la.length = i := by omega
      refine wp_cond_false (hE.eval rfl) ?_
      refine wp_exit ?_
      refine q_then_e ?_
      refine q_then_e ?_
      refine q_block_x ?_
      refine hK4 _ _ ?_
      refine wp_seq_k (fun K8 hK8 => ?_)
      refine wp_plain [true] rfl rfl ?_
      refine s_assign hE rfl rfl ?_; clear hE a; intro a hE
      refine q_nil ?_
      refine hK8 _ _ ?_
      refine wp_ret ?_
      refine f_ret1 hE rfl rfl ?_
      exact ⟨(congrArg (fun b => Ending.returned (Value.bool b)) (decide_eq_true (by rw [← List.take_length (l := la), hpre, hll, List.take_length])).symm), hM.pick [] rfl⟩
end Go.Proofs.Ytamjaacddbecaaa
