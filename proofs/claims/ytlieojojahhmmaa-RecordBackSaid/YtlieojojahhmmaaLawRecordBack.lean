/- RecordBack of casematelaw21 returns true for whatever root record and writes; they read behind the call as before. No condition. -/
import Derived.Test.YtlieojojahhmmaaLk
set_option linter.unusedSimpArgs false
set_option linter.unusedVariables false
namespace Go.Proofs.Ytlieojojahhmmaa
open Go Go.Kx
open Go.ChangeShapes Go.WideShapes Go.ChangeAt Go.RowKit

theorem recordBack_yes (rc : Nat) (rt : List UInt8) (rh : List UInt8) (rb : List UInt8) (rm : Int) (ry : Int) (v : Value) (ls : List Wr) (c : Nat) (w : World) (hl_rt : rt.length = 32) (hl_rh : rh.length = 32) (hl_rb : rb.length = 32) (hr_ls : (rd v 66 ls.length c (ls.flatMap wcl)).holds w) (ho_ls : ∀ x, x ∈ ls → OkWr x) (hc : rc < 18446744073709551616) (hm : -9223372036854775808 ≤ rm ∧ rm ≤ 9223372036854775807) (hy : -9223372036854775808 ≤ ry ∧ ry ≤ 9223372036854775807) (hro : rootOk rc rm ry = true) : Calls Try.prog 13 #[.agg ([[.int .u64 ((rc : Nat) : Int)], bv rt, bv rh, bv rb, [.int .i64 rm], [.int .i64 ry]] : List (List Value)).flatten.toArray, v] w fun e w' => e = .returned (.bool true) ∧ Mem w [] w' [] := by
  obtain ⟨hg, hpe, hlen, q1, q2, q3, q4, q5, q6⟩ := root_back hl_rt hl_rh hl_rb hro
  have hM : Mem w [] w [rd v 66 ls.length c (ls.flatMap wcl)] := Mem.startR w (fun g hg => by
    simp only [List.mem_cons, List.not_mem_nil, or_false] at hg
    rcases hg with rfl
    · exact ⟨hr_ls, rfl⟩)
  refine f_enter 100 Try.func13 rfl rfl rfl ?_
  intro a hE
  replace hE : Env a 100 [(0, _), (1, _)] := hE
  refine wp_seq_k (fun K1 hK1 => ?_)
  refine wp_plain [false, true] rfl rfl ?_
  refine s_box (ss := [[.int .u64 ((rc : Nat) : Int)], bv rt, bv rh, bv rb, [.int .i64 rm], [.int .i64 ry]]) [1, 32, 32, 32, 1, 1] hE hM rfl rfl (by simp [*]) rfl ?_; clear hE a; intro a b2 w1 hE hM'
  clear hM; have hM := hM'; clear hM'
  refine s_assign hE rfl rfl ?_; clear hE a; intro a hE
  refine q_nil ?_
  replace hE : Env a 100 [(1, _), (2, _), (4, _)] := hE.sel [1, 2, 4] rfl
  refine hK1 _ _ ?_
  refine wp_seq_k (fun K2 hK2 => ?_)
  refine wp_plain [true, false, true, true, true, true, true] rfl rfl ?_
  refine s_loadN hE rfl (hM.get 0 rfl) row67 rfl (by intro X h; cases h) rfl ?_; clear hE a; intro a hE
  replace hE := hE.cast 15 rfl (show _ = Value.agg ([[.int .u64 ((rc : Nat) : Int)], bv rt, bv rh, bv rb, [.int .i64 rm], [.int .i64 ry]] : List (List Value)).flatten.toArray from (by first | rfl | simp))
  refine s_call hE rfl Try.call26 (put_a rc rt rh rb rm ry _ hl_rt hl_rh hl_rb) rfl ?_
  rintro e w2 ⟨v16, rfl, hN⟩
  refine ⟨_, rfl, trivial, ?_⟩; clear hE a; intro a hE
  replace hM : Mem _ _ w2 [_, _, _] := hM.call0 hN ⟨rfl, trivial⟩; clear hN
  refine s_move hE rfl rfl ?_; clear hE a; intro a hE
  refine s_extract hE rfl rfl rfl ?_; clear hE a; intro a hE
  refine s_extract hE rfl rfl rfl ?_; clear hE a; intro a hE
  refine s_assign hE rfl rfl ?_; clear hE a; intro a hE
  refine s_assign hE rfl rfl ?_; clear hE a; intro a hE
  refine q_nil ?_
  replace hE : Env a 100 [(1, _), (2, _), (4, _), (5, _), (6, _)] := hE.sel [1, 2, 4, 5, 6] rfl
  refine hK2 _ _ ?_
  refine wp_seq_k (fun K3 hK3 => ?_)
  refine wp_plain [true, false, true, true, true, false, false, true] rfl rfl ?_
  refine s_move hE rfl rfl ?_; clear hE a; intro a hE
  obtain ⟨cq1, hq1⟩ := own_rd (hM.get 0 rfl)
  refine s_call hE rfl Try.call28 (get_yes _ (putL rc rt rh rb rm ry) _ _ hq1 hg) rfl ?_
  rintro e w3 ⟨rfl, hN⟩
  refine ⟨_, rfl, trivial, ?_⟩; clear hE a; intro a hE
  replace hM : Mem _ _ w3 [_, _, _] := hM.call0 hN trivial; clear hN
  refine s_move hE rfl rfl ?_; clear hE a; intro a hE
  refine s_extract hE rfl rfl rfl ?_; clear hE a; intro a hE
  refine s_extract hE rfl rfl rfl ?_; clear hE a; intro a hE
  refine s_alloc [1, 32, 32, 32, 1, 1] hE hM zero67 rfl rfl ?_; clear hE a; intro a b7 w4 hE hM'
  clear hM; have hM := hM'; clear hM'
  refine s_storeSegs 0 6 (vss := [[.int .u64 ((val (((putL rc rt rh rb rm ry).drop 8).take 8) : Nat) : Int)], bv (((putL rc rt rh rb rm ry).drop 16).take 32), bv (((putL rc rt rh rb rm ry).drop 48).take 32), bv (((putL rc rt rh rb rm ry).drop 80).take 32), [.int .i64 ((val (((putL rc rt rh rb rm ry).drop 112).take 4) : Nat) : Int)], [.int .i64 ((val (((putL rc rt rh rb rm ry).drop 116).take 4) : Nat) : Int)]]) hE rfl rfl hM rfl sz67 (by have hl_s1 : (((putL rc rt rh rb rm ry).drop 16).take 32).length = 32 := (by simp [*]); have hl_s2 : (((putL rc rt rh rb rm ry).drop 48).take 32).length = 32 := (by simp [*]); have hl_s3 : (((putL rc rt rh rb rm ry).drop 80).take 32).length = 32 := (by simp [*]);  simp only [List.map_cons, List.map_nil, bv_length, List.length_cons, List.length_nil, List.take_succ_cons, List.take_zero, List.drop_zero, List.drop_succ_cons, hl_s1, hl_s2, hl_s3]) (by decide) rfl (one_fl ⟨one1 rfl, bv_one _, bv_one _, bv_one _, one1 rfl, one1 rfl, trivial⟩) rfl (by intro X h; cases h) ?_; intro w5 hM'; clear hM; have hM := hM'; clear hM'
  simp only [List.take_zero, List.take_succ_cons, List.drop_zero, List.drop_succ_cons, List.take_nil, List.drop_nil, List.nil_append, List.append_nil, List.cons_append] at hM
  refine s_assign hE rfl rfl ?_; clear hE a; intro a hE
  refine q_nil ?_
  replace hE : Env a 100 [(1, _), (2, _), (4, _), (5, _), (6, _), (7, _), (8, _)] := hE.sel [1, 2, 4, 5, 6, 7, 8] rfl
  refine hK3 _ _ ?_
  refine wp_seq_k (fun K4 hK4 => ?_)
  refine wp_seq_k (fun K5 hK5 => ?_)
  refine wp_plain [true, true, true, true, true, true, true, true, true, true, true, true, true, true, true, true, true, true, true] rfl rfl ?_
  refine s_move hE rfl rfl ?_; clear hE a; intro a hE
  refine s_bin hE rfl rfl bin_eql rfl ?_; clear hE a; intro a hE
  refine s_move hE rfl rfl ?_; clear hE a; intro a hE
  refine s_bin hE rfl rfl bin_eql rfl ?_; clear hE a; intro a hE
  replace hE := hE.cast 27 rfl (show _ = Value.bool true from (congrArg Value.bool (by decide)))
  refine s_bin hE rfl rfl (bins_bool Try.underlying4).2 rfl ?_; clear hE a; intro a hE
  refine s_move hE rfl rfl ?_; clear hE a; intro a hE
  replace hE := hE.cast 29 rfl (show _ = Value.bool false from (congrArg Value.bool (by first | rfl | (rw [hpe]; rfl))))
  refine g_yes hE rfl rfl ?_
  refine s_move hE rfl rfl ?_; clear hE a; intro a hE
  refine g_yes hE rfl rfl ?_
  refine s_bin hE rfl rfl bin_eql rfl ?_; clear hE a; intro a hE
  refine g_yes hE rfl rfl ?_
  refine s_move hE rfl rfl ?_; clear hE a; intro a hE
  replace hE := hE.cast 32 rfl (show _ = Value.bool true from (congrArg Value.bool (by first | rfl | (rw [hpe]; rfl))))
  refine g_yes hE rfl rfl ?_
  refine s_loadN hE rfl (hM.get 0 rfl) row67 rfl (by intro X h; cases h) rfl ?_; clear hE a; intro a hE
  replace hE := hE.cast 33 rfl (show _ = Value.agg ([[.int .u64 ((val (((putL rc rt rh rb rm ry).drop 8).take 8) : Nat) : Int)], bv (((putL rc rt rh rb rm ry).drop 16).take 32), bv (((putL rc rt rh rb rm ry).drop 48).take 32), bv (((putL rc rt rh rb rm ry).drop 80).take 32), [.int .i64 ((val (((putL rc rt rh rb rm ry).drop 112).take 4) : Nat) : Int)], [.int .i64 ((val (((putL rc rt rh rb rm ry).drop 116).take 4) : Nat) : Int)]] : List (List Value)).flatten.toArray from (by first | rfl | simp))
  refine g_yes hE rfl rfl ?_
  refine s_loadN hE rfl (hM.get 2 rfl) row67 rfl (by intro X h; cases h) rfl ?_; clear hE a; intro a hE
  replace hE := hE.cast 34 rfl (show _ = Value.agg ([[.int .u64 ((rc : Nat) : Int)], bv rt, bv rh, bv rb, [.int .i64 rm], [.int .i64 ry]] : List (List Value)).flatten.toArray from (by first | rfl | simp))
  refine g_yes hE rfl rfl ?_
  refine s_bin hE rfl rfl ((eqk67 (b := decide ((((val (((putL rc rt rh rb rm ry).drop 8).take 8) : Nat) : Int) : Int) = ((rc : Nat) : Int) ∧ (((putL rc rt rh rb rm ry).drop 16).take 32) = rt ∧ (((putL rc rt rh rb rm ry).drop 48).take 32) = rh ∧ (((putL rc rt rh rb rm ry).drop 80).take 32) = rb ∧ (((val (((putL rc rt rh rb rm ry).drop 112).take 4) : Nat) : Int) : Int) = rm ∧ (((val (((putL rc rt rh rb rm ry).drop 116).take 4) : Nat) : Int) : Int) = ry)) (kl67 (k := 0) (x0 := ((val (((putL rc rt rh rb rm ry).drop 8).take 8) : Nat) : Int)) (x1 := ((putL rc rt rh rb rm ry).drop 16).take 32) (x2 := ((putL rc rt rh rb rm ry).drop 48).take 32) (x3 := ((putL rc rt rh rb rm ry).drop 80).take 32) (x4 := ((val (((putL rc rt rh rb rm ry).drop 112).take 4) : Nat) : Int)) (x5 := ((val (((putL rc rt rh rb rm ry).drop 116).take 4) : Nat) : Int)) (by simp [Lit.wf, IntKind.min, IntKind.max, IntKind.signed, IntKind.bits]; try omega) (by simp [*]) (by simp [*]) (by simp [*]) (by simp [Lit.wf, IntKind.min, IntKind.max, IntKind.signed, IntKind.bits]; try omega) (by simp [Lit.wf, IntKind.min, IntKind.max, IntKind.signed, IntKind.bits]; try omega)) (kl67 (k := 0) (x0 := ((rc : Nat) : Int)) (x1 := rt) (x2 := rh) (x3 := rb) (x4 := rm) (x5 := ry) (by simp [Lit.wf, IntKind.min, IntKind.max, IntKind.signed, IntKind.bits]; try omega) hl_rt hl_rh hl_rb (by simp [Lit.wf, IntKind.min, IntKind.max, IntKind.signed, IntKind.bits]; try omega) (by simp [Lit.wf, IntKind.min, IntKind.max, IntKind.signed, IntKind.bits]; try omega)) (by rw [flat_eq (by have hl_x1 : (((putL rc rt rh rb rm ry).drop 16).take 32).length = 32 := (by simp [*]); have hl_x2 : (((putL rc rt rh rb rm ry).drop 48).take 32).length = 32 := (by simp [*]); have hl_x3 : (((putL rc rt rh rb rm ry).drop 80).take 32).length = 32 := (by simp [*]); have hl_y1 : rt.length = 32 := hl_rt; have hl_y2 : rh.length = 32 := hl_rh; have hl_y3 : rb.length = 32 := hl_rb; simp only [List.map_cons, List.map_nil, bv_length, List.length_cons, List.length_nil, hl_x1, hl_x2, hl_x3, hl_y1, hl_y2, hl_y3])]; simp [bv_iff, Int.ofNat_inj]; try omega)).2) rfl ?_; clear hE a; intro a hE
  refine g_yes hE rfl rfl ?_
  refine s_move hE rfl rfl ?_; clear hE a; intro a hE
  replace hE := hE.cast 36 rfl (show _ = Value.bool false from (congrArg Value.bool (by first | rfl | (rw [decide_eq_true ⟨q1, q2, q3, q4, q5, q6⟩]; rfl) | (simp only [q1, q2, q3, q4, q5, q6]; simp))))
  refine g_yes hE rfl rfl ?_
  refine s_move hE rfl rfl ?_; clear hE a; intro a hE
  refine g_yes hE rfl rfl ?_
  refine s_len hE rfl Try.underlying55 (own_slice (hM.get 1 rfl)) rfl ?_; clear hE a; intro a hE
  refine g_yes hE rfl rfl ?_
  refine s_bin hE rfl rfl bin_neq rfl ?_; clear hE a; intro a hE
  refine g_yes hE rfl rfl ?_
  refine s_pickf hE rfl rfl rfl ?_; clear hE a; intro a hE
  refine g_yes hE rfl rfl ?_
  refine s_pickt hE rfl rfl rfl ?_; clear hE a; intro a hE
  refine s_pickf hE rfl rfl rfl ?_; clear hE a; intro a hE
  refine q_nil ?_
  replace hE : Env a 100 [(1, _), (2, _), (4, _), (5, _), (7, _), (42, _)] := hE.sel [1, 2, 4, 5, 7, 42] rfl
  refine hK5 _ _ ?_
  replace hE := hE.cast 42 rfl (show _ = Value.bool false from (congrArg Value.bool (by first | rfl | (simp; done) | (simp [hlen]; done) | (rw [hlen]; rfl))))
  refine wp_cond_false (hE.eval rfl) ?_
  refine wp_skip ?_
  refine hK4 _ _ ?_
  refine wp_seq_k (fun K6 hK6 => ?_)
  refine wp_seq_k (fun K7 hK7 => ?_)
  refine wp_plain [true, true, true] rfl rfl ?_
  refine s_move hE rfl rfl ?_; clear hE a; intro a hE
  refine s_len hE rfl Try.underlying77 (rd_slice (hM.get 3 rfl)) rfl ?_; clear hE a; intro a hE
  refine s_bin hE rfl rfl bin_gtr rfl ?_; clear hE a; intro a hE
  refine q_nil ?_
  replace hE : Env a 100 [(1, _), (2, _), (4, _), (5, _), (7, _), (42, _), (45, _)] := hE.sel [1, 2, 4, 5, 7, 42, 45] rfl
  refine hK7 _ _ ?_
  refine hE.split 45 rfl (fun hb45 hE' => ?_) (fun hb45 hE' => ?_)
  · replace hE := hE'; clear hE'
    replace hb45 := of_decide_eq_true hb45
    replace hb45 : 60 < ls.length := by omega
    refine wp_cond_true (hE.eval rfl) ?_
    refine wp_seq_k (fun K8 hK8 => ?_)
    refine wp_plain [false, true] rfl rfl ?_
    refine s_call hE rfl Try.call30 (awake21_c  _ ) rfl ?_
    rintro e w6 ⟨rfl, hN⟩
    refine ⟨_, rfl, trivial, ?_⟩; clear hE a; intro a hE
    replace hM : Mem _ _ w6 [_, _, _, _] := hM.call0 hN trivial; clear hN
    refine s_assign hE rfl rfl ?_; clear hE a; intro a hE
    refine q_nil ?_
    replace hE : Env a 100 [(1, _), (2, _), (4, _), (5, _), (7, _), (42, _), (45, _)] := hE.sel [1, 2, 4, 5, 7, 42, 45] rfl
    refine hK8 _ _ ?_
    refine wp_ret ?_
    refine q_then_r ?_
    refine f_ret1 hE rfl rfl ?_
    exact ⟨(by first | rfl | (simp; done)), hM.pick [] rfl⟩
  · replace hE := hE'; clear hE'
    replace hb45 := of_decide_eq_false hb45
    replace hb45 : ¬ (60 < ls.length) := by omega
    refine wp_cond_false (hE.eval rfl) ?_
    refine wp_skip ?_
    refine hK6 _ _ ?_
    refine wp_seq_k (fun K8 hK8 => ?_)
    refine wp_plain [true, false, true, true, true, true, true] rfl rfl ?_
    refine s_move hE rfl rfl ?_; clear hE a; intro a hE
    refine s_call hE rfl Try.call31 (putwrites_c _ ls _ _ (hM.get 3 rfl) ho_ls) rfl ?_
    rintro e w6 ⟨v49_0, rfl, hN⟩
    refine ⟨_, rfl, trivial, ?_⟩; clear hE a; intro a hE
    replace hM : Mem _ _ w6 [_, _, _, _, _] := hM.call0 hN ⟨rfl, trivial⟩; clear hN
    refine s_move hE rfl rfl ?_; clear hE a; intro a hE
    refine s_extract hE rfl rfl rfl ?_; clear hE a; intro a hE
    refine s_extract hE rfl rfl rfl ?_; clear hE a; intro a hE
    refine s_assign hE rfl rfl ?_; clear hE a; intro a hE
    refine s_assign hE rfl rfl ?_; clear hE a; intro a hE
    refine q_nil ?_
    replace hE : Env a 100 [(1, _), (2, _), (4, _), (5, _), (7, _), (9, _), (10, _), (42, _), (45, _)] := hE.sel [1, 2, 4, 5, 7, 9, 10, 42, 45] rfl
    refine hK8 _ _ ?_
    refine wp_seq_k (fun K9 hK9 => ?_)
    refine wp_seq_k (fun K10 hK10 => ?_)
    refine wp_plain [true, true] rfl rfl ?_
    refine s_move hE rfl rfl ?_; clear hE a; intro a hE
    refine s_bin hE rfl rfl bin_neq rfl ?_; clear hE a; intro a hE
    refine q_nil ?_
    replace hE : Env a 100 [(1, _), (2, _), (4, _), (5, _), (7, _), (9, _), (42, _), (45, _), (53, _)] := hE.sel [1, 2, 4, 5, 7, 9, 42, 45, 53] rfl
    refine hK10 _ _ ?_
    refine hE.split 53 rfl (fun hb53 hE' => ?_) (fun hb53 hE' => ?_)
    · replace hE := hE'; clear hE'
      replace hb53 := of_decide_eq_false (not_true hb53)
      replace hb53 : ¬ ((putF ls) = 0) := by omega
      have hpw := putF_no hb53
      refine wp_cond_true (hE.eval rfl) ?_
      refine wp_seq_k (fun K11 hK11 => ?_)
      refine wp_plain [true, true, true, true, false, true, true] rfl rfl ?_
      refine s_move hE rfl rfl ?_; clear hE a; intro a hE
      refine s_len hE rfl Try.underlying55 (own_slice (hM.get 0 rfl)) rfl ?_; clear hE a; intro a hE
      refine s_bin hE rfl rfl bin_eql rfl ?_; clear hE a; intro a hE
      refine s_move hE rfl rfl ?_; clear hE a; intro a hE
      replace hE := hE.cast 57 rfl (show _ = Value.bool true from (congrArg Value.bool (by first | rfl | (rw [hpw]; rfl) | simp [hpw])))
      refine g_yes hE rfl rfl ?_
      refine s_call hE rfl Try.call30 (awake21_c  _ ) rfl ?_
      rintro e w7 ⟨rfl, hN⟩
      refine ⟨_, rfl, trivial, ?_⟩; clear hE a; intro a hE
      replace hM : Mem _ _ w7 [_, _, _, _, _] := hM.call0 hN trivial; clear hN
      refine s_pickt hE rfl rfl rfl ?_; clear hE a; intro a hE
      refine s_assign hE rfl rfl ?_; clear hE a; intro a hE
      refine q_nil ?_
      replace hE : Env a 100 [(1, _), (2, _), (4, _), (5, _), (7, _), (9, _), (42, _), (45, _), (53, _)] := hE.sel [1, 2, 4, 5, 7, 9, 42, 45, 53] rfl
      refine hK11 _ _ ?_
      refine wp_ret ?_
      refine q_then_r ?_
      refine f_ret1 hE rfl rfl ?_
      exact ⟨(by first | rfl | (simp; done)), hM.pick [] rfl⟩
    · replace hE := hE'; clear hE'
      replace hb53 := of_decide_eq_true (not_false' hb53)
      replace hb53 : (putF ls) = 0 := by omega
      obtain ⟨hb1, hb2, hb3⟩ := put_back ho_ls (by omega)
      refine wp_cond_false (hE.eval rfl) ?_
      refine wp_skip ?_
      refine hK9 _ _ ?_
      refine wp_seq_k (fun K11 hK11 => ?_)
      refine wp_plain [true, true, true, false, true, true, true, true, true] rfl rfl ?_
      refine s_move hE rfl rfl ?_; clear hE a; intro a hE
      refine s_move hE rfl rfl ?_; clear hE a; intro a hE
      refine s_len hE rfl Try.underlying77 (rd_slice (hM.get 4 rfl)) rfl ?_; clear hE a; intro a hE
      obtain ⟨cq2, hq2⟩ := own_rd (hM.get 0 rfl)
      refine s_call hE rfl Try.call34 (pget_a _ (putW ls) _ ((ls.length : Nat) : Int) _ hq2) rfl ?_
      rintro e w7 ⟨v64, rfl, hN⟩
      refine ⟨_, rfl, trivial, ?_⟩; clear hE a; intro a hE
      replace hM : Mem _ _ w7 [_, _, _, _, _, _] := hM.call0 hN ⟨rfl, trivial⟩; clear hN
      refine s_move hE rfl rfl ?_; clear hE a; intro a hE
      refine s_extract hE rfl rfl rfl ?_; clear hE a; intro a hE
      refine s_extract hE rfl rfl rfl ?_; clear hE a; intro a hE
      refine s_assign hE rfl rfl ?_; clear hE a; intro a hE
      refine s_assign hE rfl rfl ?_; clear hE a; intro a hE
      refine q_nil ?_
      replace hE : Env a 100 [(1, _), (2, _), (4, _), (5, _), (7, _), (9, _), (11, _), (12, _), (42, _), (45, _), (53, _)] := hE.sel [1, 2, 4, 5, 7, 9, 11, 12, 42, 45, 53] rfl
      refine hK11 _ _ ?_
      refine wp_seq_k (fun K12 hK12 => ?_)
      refine wp_seq_k (fun K13 hK13 => ?_)
      refine wp_plain [true, true, true, true, true, true, true, true, true, true, true, true, true, true, true, true, true] rfl rfl ?_
      refine s_move hE rfl rfl ?_; clear hE a; intro a hE
      refine s_bin hE rfl rfl bin_neq rfl ?_; clear hE a; intro a hE
      refine s_move hE rfl rfl ?_; clear hE a; intro a hE
      replace hM := Mem.ownRowsEq (f := wcl) (ls := gwL (putW ls) ((ls.length : Nat) : Int)) (ms := ls) hM hb1
      replace hE := hE.cast 69 rfl (show _ = Value.bool false from (congrArg Value.bool (by first | rfl | (rw [hb2]; rfl))))
      refine g_yes hE rfl rfl ?_
      refine s_move hE rfl rfl ?_; clear hE a; intro a hE
      refine g_yes hE rfl rfl ?_
      refine s_len hE rfl Try.underlying77 (own_slice (hM.get 0 rfl)) rfl ?_; clear hE a; intro a hE
      refine g_yes hE rfl rfl ?_
      refine s_move hE rfl rfl ?_; clear hE a; intro a hE
      refine g_yes hE rfl rfl ?_
      refine s_len hE rfl Try.underlying77 (rd_slice (hM.get 5 rfl)) rfl ?_; clear hE a; intro a hE
      refine g_yes hE rfl rfl ?_
      refine s_bin hE rfl rfl bin_neq rfl ?_; clear hE a; intro a hE
      refine s_pickf hE rfl rfl rfl ?_; clear hE a; intro a hE
      refine s_move hE rfl rfl ?_; clear hE a; intro a hE
      replace hE := hE.cast 76 rfl (show _ = Value.bool false from (congrArg Value.bool (by first | rfl | simp)))
      refine g_yes hE rfl rfl ?_
      refine s_move hE rfl rfl ?_; clear hE a; intro a hE
      refine g_yes hE rfl rfl ?_
      refine s_len hE rfl Try.underlying55 (own_slice (hM.get 1 rfl)) rfl ?_; clear hE a; intro a hE
      refine g_yes hE rfl rfl ?_
      refine s_move hE rfl rfl ?_; clear hE a; intro a hE
      refine g_yes hE rfl rfl ?_
      refine s_len hE rfl Try.underlying77 (rd_slice (hM.get 5 rfl)) rfl ?_; clear hE a; intro a hE
      refine g_yes hE rfl rfl ?_
      refine s_bin hE rfl rfl (show Bin _ _ _ _ _ (.int .i64 ((69 * ls.length : Nat) : Int)) from bin_mul (by rw [wrap_i64 (by omega) (by omega)]; omega)) rfl ?_; clear hE a; intro a hE
      refine g_yes hE rfl rfl ?_
      refine s_bin hE rfl rfl bin_neq rfl ?_; clear hE a; intro a hE
      refine s_pickf hE rfl rfl rfl ?_; clear hE a; intro a hE
      refine q_nil ?_
      replace hE : Env a 100 [(1, _), (2, _), (4, _), (5, _), (7, _), (9, _), (11, _), (42, _), (45, _), (53, _), (83, _)] := hE.sel [1, 2, 4, 5, 7, 9, 11, 42, 45, 53, 83] rfl
      refine hK13 _ _ ?_
      replace hE := hE.cast 83 rfl (show _ = Value.bool false from (congrArg Value.bool (by first | rfl | (rw [hb3]; simp))))
      refine wp_cond_false (hE.eval rfl) ?_
      refine wp_skip ?_
      refine hK12 _ _ ?_
      refine wp_seq_k (fun K14 hK14 => ?_)
      refine wp_seq_k (fun K15 hK15 => ?_)
      refine wp_plain [true] rfl rfl ?_
      refine s_assign hE rfl rfl ?_; clear hE a; intro a hE
      refine q_nil ?_
      refine hK15 _ _ ?_
      refine wp_block ?_
      refine c_loop (fun (i : Nat) a w' => i ≤ ls.length ∧ Env a 100 [(1, v), (2, .pointer (some ⟨b2, 0, none⟩)), (4, .bool false), (5, v16), (7, .pointer (some ⟨b7, 0, none⟩)), (9, v49_0), (11, v64), (13, .int .i64 ((i : Nat) : Int)), (42, .bool false), (45, .bool false), (53, .bool false), (83, .bool false)] ∧ Mem w [] w' [own v64 66 ls.length (ls.flatMap wcl), own v49_0 1 (putW ls).length (bv (putW ls)), blk b7 [[.int .u64 ((val (((putL rc rt rh rb rm ry).drop 8).take 8) : Nat) : Int)], bv (((putL rc rt rh rb rm ry).drop 16).take 32), bv (((putL rc rt rh rb rm ry).drop 48).take 32), bv (((putL rc rt rh rb rm ry).drop 80).take 32), [.int .i64 ((val (((putL rc rt rh rb rm ry).drop 112).take 4) : Nat) : Int)], [.int .i64 ((val (((putL rc rt rh rb rm ry).drop 116).take 4) : Nat) : Int)]] [1, 32, 32, 32, 1, 1] 67, own v16 1 (putL rc rt rh rb rm ry).length (bv (putL rc rt rh rb rm ry)), blk b2 [[.int .u64 ((rc : Nat) : Int)], bv rt, bv rh, bv rb, [.int .i64 rm], [.int .i64 ry]] [1, 32, 32, 32, 1, 1] 67, rd v 66 ls.length c (ls.flatMap wcl)]) (fun i => ls.length - i) 0 ⟨Nat.zero_le _, hE.sel [1, 2, 4, 5, 7, 9, 11, 13, 42, 45, 53, 83] rfl, hM⟩ ?_
      clear hE hM a; rintro i a w8 ⟨hi, hE, hM⟩
      refine wp_seq_k (fun K16 hK16 => ?_)
      refine wp_seq_k (fun K17 hK17 => ?_)
      refine wp_plain [true, true, true, true] rfl rfl ?_
      refine s_move hE rfl rfl ?_; clear hE a; intro a hE
      refine s_move hE rfl rfl ?_; clear hE a; intro a hE
      refine s_len hE rfl Try.underlying77 (rd_slice (hM.get 5 rfl)) rfl ?_; clear hE a; intro a hE
      refine s_bin hE rfl rfl bin_lss rfl ?_; clear hE a; intro a hE
      refine q_nil ?_
      replace hE : Env a 100 [(1, _), (2, _), (4, _), (5, _), (7, _), (9, _), (11, _), (13, _), (42, _), (45, _), (53, _), (83, _), (87, _)] := hE.sel [1, 2, 4, 5, 7, 9, 11, 13, 42, 45, 53, 83, 87] rfl
      refine hK17 _ _ ?_
      refine hE.split 87 rfl (fun hb87 hE' => ?_) (fun hb87 hE' => ?_)
      · replace hE := hE'; clear hE'
        replace hb87 := of_decide_eq_true hb87
        replace hb87 : i < ls.length := by omega
        replace hb87 : i < ls.length := by omega
        refine wp_cond_true (hE.eval rfl) ?_
        refine wp_skip ?_
        refine hK16 _ _ ?_
        refine wp_seq_k (fun K18 hK18 => ?_)
        refine wp_block ?_
        refine wp_seq_k (fun K19 hK19 => ?_)
        refine wp_drawnM hM (by kernel_rfl) (fun _ => False) [(0, true), (1, true), (2, true), (3, true), (4, true), (5, true), (6, true), (7, true), (8, true)] [] (by kernel_rfl) rfl ?_
        intro w9 hM' hww9; clear hM; have hM := hM'; clear hM'
        refine s_move hE rfl rfl ?_; clear hE a; intro a hE
        refine s_move hE rfl rfl ?_; clear hE a; intro a hE
        obtain ⟨cx92, hx92⟩ := own_rd (hM.get 0 rfl)
        refine s_indexRd (j := i) hE rfl hx92 rfl slt77 (by first | rfl | omega) (by first | omega | (simp; omega) | (simp [*]; omega)) rfl ?_; clear hE a; intro a p92 hE hc92 hp92
        have hlj92 : i < ls.length := (by first | omega | (simp; omega))
        have hok92 := ho_ls _ (getD_mem (d := wr0) hlj92)
        rw [flat_elem (d := wr0) (fun x hx => wcl_len ((ho_ls x hx)).1) hlj92] at hc92
        refine s_loadAtN hE rfl hc92 (by rw [wcl_len hok92.1]; exact row84) (by intro X h; cases h; simp) rfl ?_; clear hE a; intro a hE
        replace hE := hE.cast 93 rfl (show _ = Value.agg ([[.int .i64 ((ls.getD i wr0).1)], [.int .i64 ((ls.getD i wr0).2.1)], bv ((ls.getD i wr0).2.2)] : List (List Value)).flatten.toArray from rfl)
        refine s_move hE rfl rfl ?_; clear hE a; intro a hE
        refine s_move hE rfl rfl ?_; clear hE a; intro a hE
        refine s_indexRd (j := i) hE rfl (hM.get 5 rfl) rfl slt77 (by first | rfl | omega) (by first | omega | (simp; omega) | (simp [*]; omega)) rfl ?_; clear hE a; intro a p96 hE hc96 hp96
        have hlj96 : i < ls.length := (by first | omega | (simp; omega))
        have hok96 := ho_ls _ (getD_mem (d := wr0) hlj96)
        rw [flat_elem (d := wr0) (fun x hx => wcl_len ((ho_ls x hx)).1) hlj96] at hc96
        refine s_loadAtN hE rfl hc96 (by rw [wcl_len hok96.1]; exact row84) (by intro X h; cases h; simp) rfl ?_; clear hE a; intro a hE
        replace hE := hE.cast 97 rfl (show _ = Value.agg ([[.int .i64 ((ls.getD i wr0).1)], [.int .i64 ((ls.getD i wr0).2.1)], bv ((ls.getD i wr0).2.2)] : List (List Value)).flatten.toArray from rfl)
        refine s_bin hE rfl rfl ((eqk84 (b := decide ((((ls.getD i wr0).1) : Int) = ((ls.getD i wr0).1) ∧ (((ls.getD i wr0).2.1) : Int) = ((ls.getD i wr0).2.1) ∧ ((ls.getD i wr0).2.2) = ((ls.getD i wr0).2.2))) (kl84 (k := 0) (x0 := ((ls.getD i wr0).1)) (x1 := ((ls.getD i wr0).2.1)) (x2 := (ls.getD i wr0).2.2) (wf_i64 hok92.2.1) (wf_i64 hok92.2.2) hok92.1) (kl84 (k := 0) (x0 := ((ls.getD i wr0).1)) (x1 := ((ls.getD i wr0).2.1)) (x2 := (ls.getD i wr0).2.2) (wf_i64 hok96.2.1) (wf_i64 hok96.2.2) hok96.1) (by rw [flat_eq (by have hl_x2 : ((ls.getD i wr0).2.2).length = 64 := hok92.1; have hl_y2 : ((ls.getD i wr0).2.2).length = 64 := hok96.1; simp only [List.map_cons, List.map_nil, bv_length, List.length_cons, List.length_nil, hl_x2, hl_y2])]; simp [bv_iff, Int.ofNat_inj]; try omega)).2) rfl ?_; clear hE a; intro a hE
        refine q_nil ?_
        replace hE : Env a 100 [(1, _), (2, _), (4, _), (5, _), (7, _), (9, _), (11, _), (13, _), (42, _), (45, _), (53, _), (83, _), (87, _), (98, _)] := hE.sel [1, 2, 4, 5, 7, 9, 11, 13, 42, 45, 53, 83, 87, 98] rfl
        refine hK19 _ _ ?_
        replace hE := hE.cast 98 rfl (show _ = Value.bool false from (congrArg Value.bool (by first | rfl | simp)))
        refine wp_cond_false (hE.eval rfl) ?_
        refine wp_skip ?_
        refine q_block_n ?_
        refine hK18 _ _ ?_
        refine wp_plain [true, true, true] rfl rfl ?_
        refine s_move hE rfl rfl ?_; clear hE a; intro a hE
        refine s_bin hE rfl rfl (show Bin _ _ _ _ _ (.int .i64 ((i + 1 : Nat) : Int)) from bin_add (by rw [wrap_i64 (by omega) (by omega)]; omega)) rfl ?_; clear hE a; intro a hE
        refine s_assign hE rfl rfl ?_; clear hE a; intro a hE
        refine q_nil ?_
        replace hE : Env a 100 [(1, _), (2, _), (4, _), (5, _), (7, _), (9, _), (11, _), (13, _), (42, _), (45, _), (53, _), (83, _), (87, _), (98, _)] := hE.sel [1, 2, 4, 5, 7, 9, 11, 13, 42, 45, 53, 83, 87, 98] rfl
        replace hE := hE.cast 13 rfl (show _ = Value.int .i64 (((i + 1) : Nat) : Int) from (congrArg _ (by omega)))
        replace hM : Mem _ _ w9 [_, _, _, _, _, _] := hM.pick [0, 1, 2, 3, 4, 5] rfl
        exact ⟨i + 1, ⟨by omega, hE.sel [1, 2, 4, 5, 7, 9, 11, 13, 42, 45, 53, 83] rfl, hM⟩, by omega⟩
      · replace hE := hE'; clear hE'
        replace hb87 := of_decide_eq_false hb87
        replace hb87 : ¬ (i < ls.length) := by omega
        obtain rfl : ls.length = i := by omega
        refine wp_cond_false (hE.eval rfl) ?_
        refine wp_exit ?_
        refine q_then_e ?_
        refine q_then_e ?_
        refine q_block_x ?_
        refine hK14 _ _ ?_
        refine wp_seq_k (fun K18 hK18 => ?_)
        refine wp_plain [false, true] rfl rfl ?_
        refine s_call hE rfl Try.call30 (awake21_c  _ ) rfl ?_
        rintro e w9 ⟨rfl, hN⟩
        refine ⟨_, rfl, trivial, ?_⟩; clear hE a; intro a hE
        replace hM : Mem _ _ w9 [_, _, _, _, _, _] := hM.call0 hN trivial; clear hN
        refine s_assign hE rfl rfl ?_; clear hE a; intro a hE
        refine q_nil ?_
        replace hE : Env a 100 [(1, _), (2, _), (4, _), (5, _), (7, _), (9, _), (11, _), (13, _), (42, _), (45, _), (53, _), (83, _), (87, _)] := hE.sel [1, 2, 4, 5, 7, 9, 11, 13, 42, 45, 53, 83, 87] rfl
        refine hK18 _ _ ?_
        refine wp_ret ?_
        refine f_ret1 hE rfl rfl ?_
        exact ⟨(by first | rfl | (simp; done)), hM.pick [] rfl⟩
theorem recordBack_no (rc : Nat) (rt : List UInt8) (rh : List UInt8) (rb : List UInt8) (rm : Int) (ry : Int) (v : Value) (ls : List Wr) (c : Nat) (w : World) (hl_rt : rt.length = 32) (hl_rh : rh.length = 32) (hl_rb : rb.length = 32) (hr_ls : (rd v 66 ls.length c (ls.flatMap wcl)).holds w) (ho_ls : ∀ x, x ∈ ls → OkWr x) (hc : rc < 18446744073709551616) (hm : -9223372036854775808 ≤ rm ∧ rm ≤ 9223372036854775807) (hy : -9223372036854775808 ≤ ry ∧ ry ≤ 9223372036854775807) (hro : rootOk rc rm ry = false) : Calls Try.prog 13 #[.agg ([[.int .u64 ((rc : Nat) : Int)], bv rt, bv rh, bv rb, [.int .i64 rm], [.int .i64 ry]] : List (List Value)).flatten.toArray, v] w fun e w' => e = .returned (.bool true) ∧ Mem w [] w' [] := by
  obtain ⟨hg, hpe⟩ := root_no (t := rt) (h := rh) (b := rb) hro
  have hM : Mem w [] w [rd v 66 ls.length c (ls.flatMap wcl)] := Mem.startR w (fun g hg => by
    simp only [List.mem_cons, List.not_mem_nil, or_false] at hg
    rcases hg with rfl
    · exact ⟨hr_ls, rfl⟩)
  refine f_enter 100 Try.func13 rfl rfl rfl ?_
  intro a hE
  replace hE : Env a 100 [(0, _), (1, _)] := hE
  refine wp_seq_k (fun K1 hK1 => ?_)
  refine wp_plain [false, true] rfl rfl ?_
  refine s_box (ss := [[.int .u64 ((rc : Nat) : Int)], bv rt, bv rh, bv rb, [.int .i64 rm], [.int .i64 ry]]) [1, 32, 32, 32, 1, 1] hE hM rfl rfl (by simp [*]) rfl ?_; clear hE a; intro a b2 w1 hE hM'
  clear hM; have hM := hM'; clear hM'
  refine s_assign hE rfl rfl ?_; clear hE a; intro a hE
  refine q_nil ?_
  replace hE : Env a 100 [(1, _), (2, _), (4, _)] := hE.sel [1, 2, 4] rfl
  refine hK1 _ _ ?_
  refine wp_seq_k (fun K2 hK2 => ?_)
  refine wp_plain [true, false, true, true, true, true, true] rfl rfl ?_
  refine s_loadN hE rfl (hM.get 0 rfl) row67 rfl (by intro X h; cases h) rfl ?_; clear hE a; intro a hE
  replace hE := hE.cast 15 rfl (show _ = Value.agg ([[.int .u64 ((rc : Nat) : Int)], bv rt, bv rh, bv rb, [.int .i64 rm], [.int .i64 ry]] : List (List Value)).flatten.toArray from (by first | rfl | simp))
  refine s_call hE rfl Try.call26 (put_a rc rt rh rb rm ry _ hl_rt hl_rh hl_rb) rfl ?_
  rintro e w2 ⟨v16, rfl, hN⟩
  refine ⟨_, rfl, trivial, ?_⟩; clear hE a; intro a hE
  replace hM : Mem _ _ w2 [_, _, _] := hM.call0 hN ⟨rfl, trivial⟩; clear hN
  refine s_move hE rfl rfl ?_; clear hE a; intro a hE
  refine s_extract hE rfl rfl rfl ?_; clear hE a; intro a hE
  refine s_extract hE rfl rfl rfl ?_; clear hE a; intro a hE
  refine s_assign hE rfl rfl ?_; clear hE a; intro a hE
  refine s_assign hE rfl rfl ?_; clear hE a; intro a hE
  refine q_nil ?_
  replace hE : Env a 100 [(1, _), (2, _), (4, _), (5, _), (6, _)] := hE.sel [1, 2, 4, 5, 6] rfl
  refine hK2 _ _ ?_
  refine wp_seq_k (fun K3 hK3 => ?_)
  refine wp_plain [true, false, true, true, true, false, false, true] rfl rfl ?_
  refine s_move hE rfl rfl ?_; clear hE a; intro a hE
  obtain ⟨cq1, hq1⟩ := own_rd (hM.get 0 rfl)
  refine s_call hE rfl Try.call28 (get_no _ (putL rc rt rh rb rm ry) _ _ hq1 hg) rfl ?_
  rintro e w3 ⟨rfl, hN⟩
  refine ⟨_, rfl, trivial, ?_⟩; clear hE a; intro a hE
  replace hM : Mem _ _ w3 [_, _, _] := hM.call0 hN trivial; clear hN
  refine s_move hE rfl rfl ?_; clear hE a; intro a hE
  refine s_extract hE rfl rfl rfl ?_; clear hE a; intro a hE
  refine s_extract hE rfl rfl rfl ?_; clear hE a; intro a hE
  refine s_alloc [1, 32, 32, 32, 1, 1] hE hM zero67 rfl rfl ?_; clear hE a; intro a b7 w4 hE hM'
  clear hM; have hM := hM'; clear hM'
  refine s_storeSegs 0 6 (vss := [[.int .u64 0], bv (List.replicate 32 (0 : UInt8)), bv (List.replicate 32 (0 : UInt8)), bv (List.replicate 32 (0 : UInt8)), [.int .i64 0], [.int .i64 0]]) hE rfl rfl hM rfl sz67 (by have hl_s1 : (List.replicate 32 (0 : UInt8)).length = 32 := (by first | (simp; done) | (simp [*]; done) | (simp; omega)); have hl_s2 : (List.replicate 32 (0 : UInt8)).length = 32 := (by first | (simp; done) | (simp [*]; done) | (simp; omega)); have hl_s3 : (List.replicate 32 (0 : UInt8)).length = 32 := (by first | (simp; done) | (simp [*]; done) | (simp; omega));  simp only [List.map_cons, List.map_nil, bv_length, List.length_cons, List.length_nil, List.take_succ_cons, List.take_zero, List.drop_zero, List.drop_succ_cons, hl_s1, hl_s2, hl_s3]) (by decide) rfl (one_fl ⟨one1 rfl, bv_one _, bv_one _, bv_one _, one1 rfl, one1 rfl, trivial⟩) rfl (by intro X h; cases h) ?_; intro w5 hM'; clear hM; have hM := hM'; clear hM'
  simp only [List.take_zero, List.take_succ_cons, List.drop_zero, List.drop_succ_cons, List.take_nil, List.drop_nil, List.nil_append, List.append_nil, List.cons_append] at hM
  refine s_assign hE rfl rfl ?_; clear hE a; intro a hE
  refine q_nil ?_
  replace hE : Env a 100 [(1, _), (2, _), (4, _), (5, _), (6, _), (7, _), (8, _)] := hE.sel [1, 2, 4, 5, 6, 7, 8] rfl
  refine hK3 _ _ ?_
  refine wp_seq_k (fun K4 hK4 => ?_)
  refine wp_seq_k (fun K5 hK5 => ?_)
  refine wp_plain [true, true, true, true, true, true, true, true, true, true, true, true, true, true, true, true, true, true, true] rfl rfl ?_
  refine s_move hE rfl rfl ?_; clear hE a; intro a hE
  refine s_bin hE rfl rfl bin_eql rfl ?_; clear hE a; intro a hE
  refine s_move hE rfl rfl ?_; clear hE a; intro a hE
  refine s_bin hE rfl rfl bin_eql rfl ?_; clear hE a; intro a hE
  replace hE := hE.cast 27 rfl (show _ = Value.bool false from (congrArg Value.bool (by decide)))
  refine s_bin hE rfl rfl (bins_bool Try.underlying4).2 rfl ?_; clear hE a; intro a hE
  refine s_move hE rfl rfl ?_; clear hE a; intro a hE
  replace hE := hE.cast 29 rfl (show _ = Value.bool false from (congrArg Value.bool (by first | rfl | (rw [hpe]; rfl))))
  refine g_yes hE rfl rfl ?_
  refine s_move hE rfl rfl ?_; clear hE a; intro a hE
  refine g_yes hE rfl rfl ?_
  refine s_bin hE rfl rfl bin_eql rfl ?_; clear hE a; intro a hE
  refine g_yes hE rfl rfl ?_
  refine s_move hE rfl rfl ?_; clear hE a; intro a hE
  replace hE := hE.cast 32 rfl (show _ = Value.bool false from (congrArg Value.bool (by first | rfl | (rw [hpe]; rfl))))
  refine g_no (b := false) hE rfl rfl rfl ?_; clear hE a; intro a hE
  refine g_no (b := false) hE rfl rfl rfl ?_; clear hE a; intro a hE
  refine g_no (b := false) hE rfl rfl rfl ?_; clear hE a; intro a hE
  refine g_no (b := false) hE rfl rfl rfl ?_; clear hE a; intro a hE
  refine g_und hE rfl rfl rfl ?_; clear hE a; intro a hE
  refine g_und hE rfl rfl rfl ?_; clear hE a; intro a hE
  refine g_und hE rfl rfl rfl ?_; clear hE a; intro a hE
  refine g_no (b := false) hE rfl rfl rfl ?_; clear hE a; intro a hE
  refine g_yes hE rfl rfl ?_
  refine s_pickf hE rfl rfl rfl ?_; clear hE a; intro a hE
  refine s_pickf hE rfl rfl rfl ?_; clear hE a; intro a hE
  refine q_nil ?_
  replace hE : Env a 100 [(1, _), (2, _), (4, _), (5, _), (7, _), (42, _)] := hE.sel [1, 2, 4, 5, 7, 42] rfl
  refine hK5 _ _ ?_
  refine wp_cond_false (hE.eval rfl) ?_
  refine wp_skip ?_
  refine hK4 _ _ ?_
  refine wp_seq_k (fun K6 hK6 => ?_)
  refine wp_seq_k (fun K7 hK7 => ?_)
  refine wp_plain [true, true, true] rfl rfl ?_
  refine s_move hE rfl rfl ?_; clear hE a; intro a hE
  refine s_len hE rfl Try.underlying77 (rd_slice (hM.get 3 rfl)) rfl ?_; clear hE a; intro a hE
  refine s_bin hE rfl rfl bin_gtr rfl ?_; clear hE a; intro a hE
  refine q_nil ?_
  replace hE : Env a 100 [(1, _), (2, _), (4, _), (5, _), (7, _), (42, _), (45, _)] := hE.sel [1, 2, 4, 5, 7, 42, 45] rfl
  refine hK7 _ _ ?_
  refine hE.split 45 rfl (fun hb45 hE' => ?_) (fun hb45 hE' => ?_)
  · replace hE := hE'; clear hE'
    replace hb45 := of_decide_eq_true hb45
    replace hb45 : 60 < ls.length := by omega
    refine wp_cond_true (hE.eval rfl) ?_
    refine wp_seq_k (fun K8 hK8 => ?_)
    refine wp_plain [false, true] rfl rfl ?_
    refine s_call hE rfl Try.call30 (awake21_c  _ ) rfl ?_
    rintro e w6 ⟨rfl, hN⟩
    refine ⟨_, rfl, trivial, ?_⟩; clear hE a; intro a hE
    replace hM : Mem _ _ w6 [_, _, _, _] := hM.call0 hN trivial; clear hN
    refine s_assign hE rfl rfl ?_; clear hE a; intro a hE
    refine q_nil ?_
    replace hE : Env a 100 [(1, _), (2, _), (4, _), (5, _), (7, _), (42, _), (45, _)] := hE.sel [1, 2, 4, 5, 7, 42, 45] rfl
    refine hK8 _ _ ?_
    refine wp_ret ?_
    refine q_then_r ?_
    refine f_ret1 hE rfl rfl ?_
    exact ⟨(by first | rfl | (simp; done)), hM.pick [] rfl⟩
  · replace hE := hE'; clear hE'
    replace hb45 := of_decide_eq_false hb45
    replace hb45 : ¬ (60 < ls.length) := by omega
    refine wp_cond_false (hE.eval rfl) ?_
    refine wp_skip ?_
    refine hK6 _ _ ?_
    refine wp_seq_k (fun K8 hK8 => ?_)
    refine wp_plain [true, false, true, true, true, true, true] rfl rfl ?_
    refine s_move hE rfl rfl ?_; clear hE a; intro a hE
    refine s_call hE rfl Try.call31 (putwrites_c _ ls _ _ (hM.get 3 rfl) ho_ls) rfl ?_
    rintro e w6 ⟨v49_0, rfl, hN⟩
    refine ⟨_, rfl, trivial, ?_⟩; clear hE a; intro a hE
    replace hM : Mem _ _ w6 [_, _, _, _, _] := hM.call0 hN ⟨rfl, trivial⟩; clear hN
    refine s_move hE rfl rfl ?_; clear hE a; intro a hE
    refine s_extract hE rfl rfl rfl ?_; clear hE a; intro a hE
    refine s_extract hE rfl rfl rfl ?_; clear hE a; intro a hE
    refine s_assign hE rfl rfl ?_; clear hE a; intro a hE
    refine s_assign hE rfl rfl ?_; clear hE a; intro a hE
    refine q_nil ?_
    replace hE : Env a 100 [(1, _), (2, _), (4, _), (5, _), (7, _), (9, _), (10, _), (42, _), (45, _)] := hE.sel [1, 2, 4, 5, 7, 9, 10, 42, 45] rfl
    refine hK8 _ _ ?_
    refine wp_seq_k (fun K9 hK9 => ?_)
    refine wp_seq_k (fun K10 hK10 => ?_)
    refine wp_plain [true, true] rfl rfl ?_
    refine s_move hE rfl rfl ?_; clear hE a; intro a hE
    refine s_bin hE rfl rfl bin_neq rfl ?_; clear hE a; intro a hE
    refine q_nil ?_
    replace hE : Env a 100 [(1, _), (2, _), (4, _), (5, _), (7, _), (9, _), (42, _), (45, _), (53, _)] := hE.sel [1, 2, 4, 5, 7, 9, 42, 45, 53] rfl
    refine hK10 _ _ ?_
    refine hE.split 53 rfl (fun hb53 hE' => ?_) (fun hb53 hE' => ?_)
    · replace hE := hE'; clear hE'
      replace hb53 := of_decide_eq_false (not_true hb53)
      replace hb53 : ¬ ((putF ls) = 0) := by omega
      have hpw := putF_no hb53
      refine wp_cond_true (hE.eval rfl) ?_
      refine wp_seq_k (fun K11 hK11 => ?_)
      refine wp_plain [true, true, true, true, false, true, true] rfl rfl ?_
      refine s_move hE rfl rfl ?_; clear hE a; intro a hE
      refine s_len hE rfl Try.underlying55 (own_slice (hM.get 0 rfl)) rfl ?_; clear hE a; intro a hE
      refine s_bin hE rfl rfl bin_eql rfl ?_; clear hE a; intro a hE
      refine s_move hE rfl rfl ?_; clear hE a; intro a hE
      replace hE := hE.cast 57 rfl (show _ = Value.bool true from (congrArg Value.bool (by first | rfl | (rw [hpw]; rfl) | simp [hpw])))
      refine g_yes hE rfl rfl ?_
      refine s_call hE rfl Try.call30 (awake21_c  _ ) rfl ?_
      rintro e w7 ⟨rfl, hN⟩
      refine ⟨_, rfl, trivial, ?_⟩; clear hE a; intro a hE
      replace hM : Mem _ _ w7 [_, _, _, _, _] := hM.call0 hN trivial; clear hN
      refine s_pickt hE rfl rfl rfl ?_; clear hE a; intro a hE
      refine s_assign hE rfl rfl ?_; clear hE a; intro a hE
      refine q_nil ?_
      replace hE : Env a 100 [(1, _), (2, _), (4, _), (5, _), (7, _), (9, _), (42, _), (45, _), (53, _)] := hE.sel [1, 2, 4, 5, 7, 9, 42, 45, 53] rfl
      refine hK11 _ _ ?_
      refine wp_ret ?_
      refine q_then_r ?_
      refine f_ret1 hE rfl rfl ?_
      exact ⟨(by first | rfl | (simp; done)), hM.pick [] rfl⟩
    · replace hE := hE'; clear hE'
      replace hb53 := of_decide_eq_true (not_false' hb53)
      replace hb53 : (putF ls) = 0 := by omega
      obtain ⟨hb1, hb2, hb3⟩ := put_back ho_ls (by omega)
      refine wp_cond_false (hE.eval rfl) ?_
      refine wp_skip ?_
      refine hK9 _ _ ?_
      refine wp_seq_k (fun K11 hK11 => ?_)
      refine wp_plain [true, true, true, false, true, true, true, true, true] rfl rfl ?_
      refine s_move hE rfl rfl ?_; clear hE a; intro a hE
      refine s_move hE rfl rfl ?_; clear hE a; intro a hE
      refine s_len hE rfl Try.underlying77 (rd_slice (hM.get 4 rfl)) rfl ?_; clear hE a; intro a hE
      obtain ⟨cq2, hq2⟩ := own_rd (hM.get 0 rfl)
      refine s_call hE rfl Try.call34 (pget_a _ (putW ls) _ ((ls.length : Nat) : Int) _ hq2) rfl ?_
      rintro e w7 ⟨v64, rfl, hN⟩
      refine ⟨_, rfl, trivial, ?_⟩; clear hE a; intro a hE
      replace hM : Mem _ _ w7 [_, _, _, _, _, _] := hM.call0 hN ⟨rfl, trivial⟩; clear hN
      refine s_move hE rfl rfl ?_; clear hE a; intro a hE
      refine s_extract hE rfl rfl rfl ?_; clear hE a; intro a hE
      refine s_extract hE rfl rfl rfl ?_; clear hE a; intro a hE
      refine s_assign hE rfl rfl ?_; clear hE a; intro a hE
      refine s_assign hE rfl rfl ?_; clear hE a; intro a hE
      refine q_nil ?_
      replace hE : Env a 100 [(1, _), (2, _), (4, _), (5, _), (7, _), (9, _), (11, _), (12, _), (42, _), (45, _), (53, _)] := hE.sel [1, 2, 4, 5, 7, 9, 11, 12, 42, 45, 53] rfl
      refine hK11 _ _ ?_
      refine wp_seq_k (fun K12 hK12 => ?_)
      refine wp_seq_k (fun K13 hK13 => ?_)
      refine wp_plain [true, true, true, true, true, true, true, true, true, true, true, true, true, true, true, true, true] rfl rfl ?_
      refine s_move hE rfl rfl ?_; clear hE a; intro a hE
      refine s_bin hE rfl rfl bin_neq rfl ?_; clear hE a; intro a hE
      refine s_move hE rfl rfl ?_; clear hE a; intro a hE
      replace hM := Mem.ownRowsEq (f := wcl) (ls := gwL (putW ls) ((ls.length : Nat) : Int)) (ms := ls) hM hb1
      replace hE := hE.cast 69 rfl (show _ = Value.bool false from (congrArg Value.bool (by first | rfl | (rw [hb2]; rfl))))
      refine g_yes hE rfl rfl ?_
      refine s_move hE rfl rfl ?_; clear hE a; intro a hE
      refine g_yes hE rfl rfl ?_
      refine s_len hE rfl Try.underlying77 (own_slice (hM.get 0 rfl)) rfl ?_; clear hE a; intro a hE
      refine g_yes hE rfl rfl ?_
      refine s_move hE rfl rfl ?_; clear hE a; intro a hE
      refine g_yes hE rfl rfl ?_
      refine s_len hE rfl Try.underlying77 (rd_slice (hM.get 5 rfl)) rfl ?_; clear hE a; intro a hE
      refine g_yes hE rfl rfl ?_
      refine s_bin hE rfl rfl bin_neq rfl ?_; clear hE a; intro a hE
      refine s_pickf hE rfl rfl rfl ?_; clear hE a; intro a hE
      refine s_move hE rfl rfl ?_; clear hE a; intro a hE
      replace hE := hE.cast 76 rfl (show _ = Value.bool false from (congrArg Value.bool (by first | rfl | simp)))
      refine g_yes hE rfl rfl ?_
      refine s_move hE rfl rfl ?_; clear hE a; intro a hE
      refine g_yes hE rfl rfl ?_
      refine s_len hE rfl Try.underlying55 (own_slice (hM.get 1 rfl)) rfl ?_; clear hE a; intro a hE
      refine g_yes hE rfl rfl ?_
      refine s_move hE rfl rfl ?_; clear hE a; intro a hE
      refine g_yes hE rfl rfl ?_
      refine s_len hE rfl Try.underlying77 (rd_slice (hM.get 5 rfl)) rfl ?_; clear hE a; intro a hE
      refine g_yes hE rfl rfl ?_
      refine s_bin hE rfl rfl (show Bin _ _ _ _ _ (.int .i64 ((69 * ls.length : Nat) : Int)) from bin_mul (by rw [wrap_i64 (by omega) (by omega)]; omega)) rfl ?_; clear hE a; intro a hE
      refine g_yes hE rfl rfl ?_
      refine s_bin hE rfl rfl bin_neq rfl ?_; clear hE a; intro a hE
      refine s_pickf hE rfl rfl rfl ?_; clear hE a; intro a hE
      refine q_nil ?_
      replace hE : Env a 100 [(1, _), (2, _), (4, _), (5, _), (7, _), (9, _), (11, _), (42, _), (45, _), (53, _), (83, _)] := hE.sel [1, 2, 4, 5, 7, 9, 11, 42, 45, 53, 83] rfl
      refine hK13 _ _ ?_
      replace hE := hE.cast 83 rfl (show _ = Value.bool false from (congrArg Value.bool (by first | rfl | (rw [hb3]; simp))))
      refine wp_cond_false (hE.eval rfl) ?_
      refine wp_skip ?_
      refine hK12 _ _ ?_
      refine wp_seq_k (fun K14 hK14 => ?_)
      refine wp_seq_k (fun K15 hK15 => ?_)
      refine wp_plain [true] rfl rfl ?_
      refine s_assign hE rfl rfl ?_; clear hE a; intro a hE
      refine q_nil ?_
      refine hK15 _ _ ?_
      refine wp_block ?_
      refine c_loop (fun (i : Nat) a w' => i ≤ ls.length ∧ Env a 100 [(1, v), (2, .pointer (some ⟨b2, 0, none⟩)), (4, .bool false), (5, v16), (7, .pointer (some ⟨b7, 0, none⟩)), (9, v49_0), (11, v64), (13, .int .i64 ((i : Nat) : Int)), (42, .bool false), (45, .bool false), (53, .bool false), (83, .bool false)] ∧ Mem w [] w' [own v64 66 ls.length (ls.flatMap wcl), own v49_0 1 (putW ls).length (bv (putW ls)), blk b7 [[.int .u64 0], bv (List.replicate 32 (0 : UInt8)), bv (List.replicate 32 (0 : UInt8)), bv (List.replicate 32 (0 : UInt8)), [.int .i64 0], [.int .i64 0]] [1, 32, 32, 32, 1, 1] 67, own v16 1 (putL rc rt rh rb rm ry).length (bv (putL rc rt rh rb rm ry)), blk b2 [[.int .u64 ((rc : Nat) : Int)], bv rt, bv rh, bv rb, [.int .i64 rm], [.int .i64 ry]] [1, 32, 32, 32, 1, 1] 67, rd v 66 ls.length c (ls.flatMap wcl)]) (fun i => ls.length - i) 0 ⟨Nat.zero_le _, hE.sel [1, 2, 4, 5, 7, 9, 11, 13, 42, 45, 53, 83] rfl, hM⟩ ?_
      clear hE hM a; rintro i a w8 ⟨hi, hE, hM⟩
      refine wp_seq_k (fun K16 hK16 => ?_)
      refine wp_seq_k (fun K17 hK17 => ?_)
      refine wp_plain [true, true, true, true] rfl rfl ?_
      refine s_move hE rfl rfl ?_; clear hE a; intro a hE
      refine s_move hE rfl rfl ?_; clear hE a; intro a hE
      refine s_len hE rfl Try.underlying77 (rd_slice (hM.get 5 rfl)) rfl ?_; clear hE a; intro a hE
      refine s_bin hE rfl rfl bin_lss rfl ?_; clear hE a; intro a hE
      refine q_nil ?_
      replace hE : Env a 100 [(1, _), (2, _), (4, _), (5, _), (7, _), (9, _), (11, _), (13, _), (42, _), (45, _), (53, _), (83, _), (87, _)] := hE.sel [1, 2, 4, 5, 7, 9, 11, 13, 42, 45, 53, 83, 87] rfl
      refine hK17 _ _ ?_
      refine hE.split 87 rfl (fun hb87 hE' => ?_) (fun hb87 hE' => ?_)
      · replace hE := hE'; clear hE'
        replace hb87 := of_decide_eq_true hb87
        replace hb87 : i < ls.length := by omega
        replace hb87 : i < ls.length := by omega
        refine wp_cond_true (hE.eval rfl) ?_
        refine wp_skip ?_
        refine hK16 _ _ ?_
        refine wp_seq_k (fun K18 hK18 => ?_)
        refine wp_block ?_
        refine wp_seq_k (fun K19 hK19 => ?_)
        refine wp_drawnM hM (by kernel_rfl) (fun _ => False) [(0, true), (1, true), (2, true), (3, true), (4, true), (5, true), (6, true), (7, true), (8, true)] [] (by kernel_rfl) rfl ?_
        intro w9 hM' hww9; clear hM; have hM := hM'; clear hM'
        refine s_move hE rfl rfl ?_; clear hE a; intro a hE
        refine s_move hE rfl rfl ?_; clear hE a; intro a hE
        obtain ⟨cx92, hx92⟩ := own_rd (hM.get 0 rfl)
        refine s_indexRd (j := i) hE rfl hx92 rfl slt77 (by first | rfl | omega) (by first | omega | (simp; omega) | (simp [*]; omega)) rfl ?_; clear hE a; intro a p92 hE hc92 hp92
        have hlj92 : i < ls.length := (by first | omega | (simp; omega))
        have hok92 := ho_ls _ (getD_mem (d := wr0) hlj92)
        rw [flat_elem (d := wr0) (fun x hx => wcl_len ((ho_ls x hx)).1) hlj92] at hc92
        refine s_loadAtN hE rfl hc92 (by rw [wcl_len hok92.1]; exact row84) (by intro X h; cases h; simp) rfl ?_; clear hE a; intro a hE
        replace hE := hE.cast 93 rfl (show _ = Value.agg ([[.int .i64 ((ls.getD i wr0).1)], [.int .i64 ((ls.getD i wr0).2.1)], bv ((ls.getD i wr0).2.2)] : List (List Value)).flatten.toArray from rfl)
        refine s_move hE rfl rfl ?_; clear hE a; intro a hE
        refine s_move hE rfl rfl ?_; clear hE a; intro a hE
        refine s_indexRd (j := i) hE rfl (hM.get 5 rfl) rfl slt77 (by first | rfl | omega) (by first | omega | (simp; omega) | (simp [*]; omega)) rfl ?_; clear hE a; intro a p96 hE hc96 hp96
        have hlj96 : i < ls.length := (by first | omega | (simp; omega))
        have hok96 := ho_ls _ (getD_mem (d := wr0) hlj96)
        rw [flat_elem (d := wr0) (fun x hx => wcl_len ((ho_ls x hx)).1) hlj96] at hc96
        refine s_loadAtN hE rfl hc96 (by rw [wcl_len hok96.1]; exact row84) (by intro X h; cases h; simp) rfl ?_; clear hE a; intro a hE
        replace hE := hE.cast 97 rfl (show _ = Value.agg ([[.int .i64 ((ls.getD i wr0).1)], [.int .i64 ((ls.getD i wr0).2.1)], bv ((ls.getD i wr0).2.2)] : List (List Value)).flatten.toArray from rfl)
        refine s_bin hE rfl rfl ((eqk84 (b := decide ((((ls.getD i wr0).1) : Int) = ((ls.getD i wr0).1) ∧ (((ls.getD i wr0).2.1) : Int) = ((ls.getD i wr0).2.1) ∧ ((ls.getD i wr0).2.2) = ((ls.getD i wr0).2.2))) (kl84 (k := 0) (x0 := ((ls.getD i wr0).1)) (x1 := ((ls.getD i wr0).2.1)) (x2 := (ls.getD i wr0).2.2) (wf_i64 hok92.2.1) (wf_i64 hok92.2.2) hok92.1) (kl84 (k := 0) (x0 := ((ls.getD i wr0).1)) (x1 := ((ls.getD i wr0).2.1)) (x2 := (ls.getD i wr0).2.2) (wf_i64 hok96.2.1) (wf_i64 hok96.2.2) hok96.1) (by rw [flat_eq (by have hl_x2 : ((ls.getD i wr0).2.2).length = 64 := hok92.1; have hl_y2 : ((ls.getD i wr0).2.2).length = 64 := hok96.1; simp only [List.map_cons, List.map_nil, bv_length, List.length_cons, List.length_nil, hl_x2, hl_y2])]; simp [bv_iff, Int.ofNat_inj]; try omega)).2) rfl ?_; clear hE a; intro a hE
        refine q_nil ?_
        replace hE : Env a 100 [(1, _), (2, _), (4, _), (5, _), (7, _), (9, _), (11, _), (13, _), (42, _), (45, _), (53, _), (83, _), (87, _), (98, _)] := hE.sel [1, 2, 4, 5, 7, 9, 11, 13, 42, 45, 53, 83, 87, 98] rfl
        refine hK19 _ _ ?_
        replace hE := hE.cast 98 rfl (show _ = Value.bool false from (congrArg Value.bool (by first | rfl | simp)))
        refine wp_cond_false (hE.eval rfl) ?_
        refine wp_skip ?_
        refine q_block_n ?_
        refine hK18 _ _ ?_
        refine wp_plain [true, true, true] rfl rfl ?_
        refine s_move hE rfl rfl ?_; clear hE a; intro a hE
        refine s_bin hE rfl rfl (show Bin _ _ _ _ _ (.int .i64 ((i + 1 : Nat) : Int)) from bin_add (by rw [wrap_i64 (by omega) (by omega)]; omega)) rfl ?_; clear hE a; intro a hE
        refine s_assign hE rfl rfl ?_; clear hE a; intro a hE
        refine q_nil ?_
        replace hE : Env a 100 [(1, _), (2, _), (4, _), (5, _), (7, _), (9, _), (11, _), (13, _), (42, _), (45, _), (53, _), (83, _), (87, _), (98, _)] := hE.sel [1, 2, 4, 5, 7, 9, 11, 13, 42, 45, 53, 83, 87, 98] rfl
        replace hE := hE.cast 13 rfl (show _ = Value.int .i64 (((i + 1) : Nat) : Int) from (congrArg _ (by omega)))
        replace hM : Mem _ _ w9 [_, _, _, _, _, _] := hM.pick [0, 1, 2, 3, 4, 5] rfl
        exact ⟨i + 1, ⟨by omega, hE.sel [1, 2, 4, 5, 7, 9, 11, 13, 42, 45, 53, 83] rfl, hM⟩, by omega⟩
      · replace hE := hE'; clear hE'
        replace hb87 := of_decide_eq_false hb87
        replace hb87 : ¬ (i < ls.length) := by omega
        obtain rfl : ls.length = i := by omega
        refine wp_cond_false (hE.eval rfl) ?_
        refine wp_exit ?_
        refine q_then_e ?_
        refine q_then_e ?_
        refine q_block_x ?_
        refine hK14 _ _ ?_
        refine wp_seq_k (fun K18 hK18 => ?_)
        refine wp_plain [false, true] rfl rfl ?_
        refine s_call hE rfl Try.call30 (awake21_c  _ ) rfl ?_
        rintro e w9 ⟨rfl, hN⟩
        refine ⟨_, rfl, trivial, ?_⟩; clear hE a; intro a hE
        replace hM : Mem _ _ w9 [_, _, _, _, _, _] := hM.call0 hN trivial; clear hN
        refine s_assign hE rfl rfl ?_; clear hE a; intro a hE
        refine q_nil ?_
        replace hE : Env a 100 [(1, _), (2, _), (4, _), (5, _), (7, _), (9, _), (11, _), (13, _), (42, _), (45, _), (53, _), (83, _), (87, _)] := hE.sel [1, 2, 4, 5, 7, 9, 11, 13, 42, 45, 53, 83, 87] rfl
        refine hK18 _ _ ?_
        refine wp_ret ?_
        refine f_ret1 hE rfl rfl ?_
        exact ⟨(by first | rfl | (simp; done)), hM.pick [] rfl⟩
theorem recordBack_c (rc : Nat) (rt rh rb : List UInt8) (rm ry : Int) (v : Value) (ls : List Wr) (c : Nat) (w : World) (ht : rt.length = 32) (hh : rh.length = 32) (hb : rb.length = 32) (hr : (rd v 66 ls.length c (ls.flatMap wcl)).holds w) (ho : ∀ x, x ∈ ls → OkWr x) (hc : rc < 18446744073709551616) (hm : -9223372036854775808 ≤ rm ∧ rm ≤ 9223372036854775807) (hy : -9223372036854775808 ≤ ry ∧ ry ≤ 9223372036854775807) :
    Calls Try.prog 13 #[.agg ([[.int .u64 ((rc : Nat) : Int)], bv rt, bv rh, bv rb, [.int .i64 rm], [.int .i64 ry]] : List (List Value)).flatten.toArray, v] w fun e w' => e = .returned (.bool true) ∧ Mem w [] w' [] := by
  cases hg : rootOk rc rm ry
  · exact recordBack_no rc rt rh rb rm ry v ls c w ht hh hb hr ho hc hm hy hg
  · exact recordBack_yes rc rt rh rb rm ry v ls c w ht hh hb hr ho hc hm hy hg
set_option maxRecDepth 100000 in
theorem recordBack_lifted (os : Os) (started : os.Started) (H : Type) (enc : TypeId × Value → H) :
    ReturnsInHanded {} Try.checked os 13 .any (Rows.recordBackSpec.pre6 enc Try.prog Try.f13 Rows.recordBackRow.domain false) (Rows.recordBackSpec.post enc Try.prog Try.f13 false true false false) := by
  refine law_lifted (C := Try.checked) (fn := Try.f13) (by kernel_rfl) started (by kernel_rfl) Try.func13 rfl (fun ds hl => ?_) rfl Try.underlying4 (by kernel_rfl) (of_decide_eq_true (by kernel_rfl)) (ChangeSpec.witness6 (enc := enc) (C := Try.checked) false ⟨#[], #[.agg ([[.int .u64 0], bv (List.replicate 32 0), bv (List.replicate 32 0), bv (List.replicate 32 0), [.int .i64 0], [.int .i64 0]] : List (List Value)).flatten.toArray, .slice none 0 0], []⟩ 8 (by kernel_rfl) (by kernel_rfl) (by kernel_rfl) (by kernel_rfl)) ?_
  · rw [Try.params13] at hl
    match ds, hl with
    | [_, _], _ => rfl
  · intro W base args ds ps hval hA hw
    rw [Try.params13] at hA hval hw
    obtain ⟨v0, vs0, d0, ds0, p0, q0, hargs, rfl, rfl, h0, r0⟩ := trodAll_cons hA
    obtain ⟨v1, vs1, d1, ds1, p1, q1, rfl, rfl, rfl, h1, r1⟩ := trodAll_cons r0
    obtain ⟨rfl, rfl, rfl⟩ := trodAll_nil r1
    obtain rfl : args = #[v0, v1] := by cases args; simp_all
    obtain ⟨cs0, rfl, hcs0⟩ := okWide_struct Try.underlying67 (hval 0 67 v0 rfl rfl)
    obtain ⟨hl0, hp0⟩ := trod_of (dec_structL (t := 67) (s := 99) [(24, 0, 1, _), (27, 1, 32, _), (27, 33, 32, _), (27, 65, 32, _), (3, 97, 1, _), (3, 98, 1, _)] Try.underlying67 (by kernel_rfl) (by kernel_rfl) (by
      intro p hp; simp only [List.mem_cons, List.not_mem_nil, or_false] at hp
      rcases hp with rfl | rfl | rfl | rfl | rfl | rfl
      · exact dec_int Try.underlying24
      · exact dec_arr8 Try.underlying27 Try.underlying5 (by kernel_rfl) (by kernel_rfl)
      · exact dec_arr8 Try.underlying27 Try.underlying5 (by kernel_rfl) (by kernel_rfl)
      · exact dec_arr8 Try.underlying27 Try.underlying5 (by kernel_rfl) (by kernel_rfl)
      · exact dec_int Try.underlying3
      · exact dec_int Try.underlying3)) h0 (fun m hm => hw m (by simp only [DataW.weightsEach, List.mem_append]; exact .inl hm))
    obtain ⟨zca, hq0_0, hq0_0a, hq0_0b⟩ := hp0 _ (.head _)
    obtain ⟨ta, hq0_1, hta⟩ := hp0 _ (.tail _ (.head _))
    obtain ⟨ha, hq0_2, hha⟩ := hp0 _ (.tail _ (.tail _ (.head _)))
    obtain ⟨ba, hq0_3, hba⟩ := hp0 _ (.tail _ (.tail _ (.tail _ (.head _))))
    obtain ⟨ma, hq0_4, hq0_4a, hq0_4b⟩ := hp0 _ (.tail _ (.tail _ (.tail _ (.tail _ (.head _)))))
    obtain ⟨ya, hq0_5, hq0_5a, hq0_5b⟩ := hp0 _ (.tail _ (.tail _ (.tail _ (.tail _ (.tail _ (.head _))))))
    have ecs0 := agg_of (cut_all [1, 32, 32, 32, 1, 1] (ps := [[.int .u64 zca], bv ta, bv ha, bv ba, [.int .i64 ma], [.int .i64 ya]]) hl0 ⟨hq0_0, hq0_1, hq0_2, hq0_3, hq0_4, hq0_5, trivial⟩)
    subst ecs0
    obtain ⟨ca, rfl⟩ := Int.eq_ofNat_of_zero_le (show 0 ≤ zca from hq0_0a)
    have hca : ca < 18446744073709551616 := by have h : (ca : Int) ≤ 18446744073709551615 := hq0_0b; omega
    have hma : -9223372036854775808 ≤ ma ∧ ma ≤ 9223372036854775807 := ⟨hq0_4a, hq0_4b⟩
    have hya : -9223372036854775808 ≤ ya ∧ ya ≤ 9223372036854775807 := ⟨hq0_5a, hq0_5b⟩
    obtain ⟨ls1, k1, hr1, ho1, hn1⟩ := arg_rowsB (es := 66) Try.underlying77 (by kernel_rfl) (by kernel_rfl) (by decide) (by decide : 0 < 80) (dec_wr (t0 := 3) (t1 := 3) (t2 := 59) Try.underlying84 (by kernel_rfl) (by kernel_rfl) Try.underlying3 Try.underlying3 Try.underlying59 Try.underlying5 (by kernel_rfl) (by kernel_rfl)) (hval 1 77 v1 rfl rfl) h1 (fun m hm => hw m (by simp only [DataW.weightsEach, List.mem_append]; exact .inr (.inl hm)))
    exact recordBack_c ca ta ha ba ma ya v1 ls1 k1 W hta hha hba hr1 ho1 hca hma hya

/-- The statement. -/
theorem recordBack_holds : Rows.RecordBackSaid :=
  OpenClaim.holds_of_wide 13 Try.f13 rfl rfl rfl rfl rfl rfl rfl ⟨rfl, rfl, rfl, rfl, rfl⟩ rfl rfl rfl rfl rfl (by kernel_rfl) Try.func13 (by kernel_rfl)
    (of_decide_eq_true (by kernel_rfl)) (by unfold Func.isWrapper; first | (rw [if_pos (by decide +kernel)]; kernel_rfl) | (rw [if_neg (by decide +kernel)]; exact ⟨rfl, rfl⟩))
    (fun os started H enc _ => recordBack_lifted os started H enc)
#print axioms recordBack_holds
end Go.Proofs.Ytlieojojahhmmaa
