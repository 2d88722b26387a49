/- RecordRoots of casematelaw21 returns true for whatever root record and bytes; they read behind the call as before. No condition. -/
import Derived.Test.YtlieojojahhmmaaLa
set_option linter.unusedSimpArgs false
set_option linter.unusedVariables false
namespace Go.Proofs.Ytlieojojahhmmaa
open Go Go.Kx
open Go.ChangeShapes Go.WideShapes Go.ChangeAt Go.RowKit

theorem recordRoots_yes (rc : Nat) (rt : List UInt8) (rh : List UInt8) (rb : List UInt8) (rm : Int) (ry : Int) (v : Value) (bs : List UInt8) (c : Nat) (w : World) (hl_rt : rt.length = 32) (hl_rh : rh.length = 32) (hl_rb : rb.length = 32) (hr_bs : (rd v 1 bs.length c (bv bs)).holds w) (hc : rc < 18446744073709551616) (hm : -9223372036854775808 ≤ rm ∧ rm ≤ 9223372036854775807) (hy : -9223372036854775808 ≤ ry ∧ ry ≤ 9223372036854775807) (hg : getOk bs = true) : Calls Try.prog 8 #[.agg ([[.int .u64 ((rc : Nat) : Int)], bv rt, bv rh, bv rb, [.int .i64 rm], [.int .i64 ry]] : List (List Value)).flatten.toArray, v] w fun e w' => e = .returned (.bool true) ∧ Mem w [] w' [] := by
  obtain ⟨hl, _, _, hro⟩ := getOk_facts hg
  have hv4a := val4 (l := (bs.drop 112).take 4) (by simp [hl])
  have hv4b := val4 (l := (bs.drop 116).take 4) (by simp [hl])
  have hv8 := val8 (l := (bs.drop 8).take 8) (by simp [hl])
  have hM : Mem w [] w [rd v 1 bs.length c (bv bs)] := Mem.startR w (fun g hg => by
    simp only [List.mem_cons, List.not_mem_nil, or_false] at hg
    rcases hg with rfl
    · exact ⟨hr_bs, rfl⟩)
  refine f_enter 56 Try.func8 rfl rfl rfl ?_
  intro a hE
  replace hE : Env a 56 [(0, _), (1, _)] := hE
  refine wp_seq_k (fun K1 hK1 => ?_)
  refine wp_plain [false, true] rfl rfl ?_
  refine s_box (ss := [[.int .u64 ((rc : Nat) : Int)], bv rt, bv rh, bv rb, [.int .i64 rm], [.int .i64 ry]]) [1, 32, 32, 32, 1, 1] hE hM rfl rfl (by simp [*]) rfl ?_; clear hE a; intro a b2 w1 hE hM'
  clear hM; have hM := hM'; clear hM'
  refine s_assign hE rfl rfl ?_; clear hE a; intro a hE
  refine q_nil ?_
  replace hE : Env a 56 [(1, _), (2, _), (4, _)] := hE.sel [1, 2, 4] rfl
  refine hK1 _ _ ?_
  refine wp_seq_k (fun K2 hK2 => ?_)
  refine wp_plain [true, false, true, true, true, true, true] rfl rfl ?_
  refine s_loadN hE rfl (hM.get 0 rfl) row67 rfl (by intro X h; cases h) rfl ?_; clear hE a; intro a hE
  replace hE := hE.cast 14 rfl (show _ = Value.agg ([[.int .u64 ((rc : Nat) : Int)], bv rt, bv rh, bv rb, [.int .i64 rm], [.int .i64 ry]] : List (List Value)).flatten.toArray from (by first | rfl | simp))
  refine s_call hE rfl Try.call26 (put_a rc rt rh rb rm ry _ hl_rt hl_rh hl_rb) rfl ?_
  rintro e w2 ⟨v15, rfl, hN⟩
  refine ⟨_, rfl, trivial, ?_⟩; clear hE a; intro a hE
  replace hM : Mem _ _ w2 [_, _, _] := hM.call0 hN ⟨rfl, trivial⟩; clear hN
  refine s_move hE rfl rfl ?_; clear hE a; intro a hE
  refine s_extract hE rfl rfl rfl ?_; clear hE a; intro a hE
  refine s_extract hE rfl rfl rfl ?_; clear hE a; intro a hE
  refine s_assign hE rfl rfl ?_; clear hE a; intro a hE
  refine s_assign hE rfl rfl ?_; clear hE a; intro a hE
  refine q_nil ?_
  replace hE : Env a 56 [(1, _), (2, _), (4, _), (5, _), (6, _)] := hE.sel [1, 2, 4, 5, 6] rfl
  refine hK2 _ _ ?_
  refine wp_seq_k (fun K3 hK3 => ?_)
  refine wp_plain [true, false, true, true, true, true, true] rfl rfl ?_
  refine s_loadN hE rfl (hM.get 1 rfl) row67 rfl (by intro X h; cases h) rfl ?_; clear hE a; intro a hE
  replace hE := hE.cast 19 rfl (show _ = Value.agg ([[.int .u64 ((rc : Nat) : Int)], bv rt, bv rh, bv rb, [.int .i64 rm], [.int .i64 ry]] : List (List Value)).flatten.toArray from (by first | rfl | simp))
  refine s_call hE rfl Try.call27 (rput_a rc rt rh rb rm ry _ hl_rt hl_rh hl_rb) rfl ?_
  rintro e w3 ⟨v20, rfl, hN⟩
  refine ⟨_, rfl, trivial, ?_⟩; clear hE a; intro a hE
  replace hM : Mem _ _ w3 [_, _, _, _] := hM.call0 hN ⟨rfl, trivial⟩; clear hN
  refine s_move hE rfl rfl ?_; clear hE a; intro a hE
  refine s_extract hE rfl rfl rfl ?_; clear hE a; intro a hE
  refine s_extract hE rfl rfl rfl ?_; clear hE a; intro a hE
  refine s_assign hE rfl rfl ?_; clear hE a; intro a hE
  refine s_assign hE rfl rfl ?_; clear hE a; intro a hE
  refine q_nil ?_
  replace hE : Env a 56 [(1, _), (2, _), (4, _), (5, _), (6, _), (7, _), (8, _)] := hE.sel [1, 2, 4, 5, 6, 7, 8] rfl
  refine hK3 _ _ ?_
  refine wp_seq_k (fun K4 hK4 => ?_)
  refine wp_plain [true, false, true, true, true, false, false, true] rfl rfl ?_
  refine s_move hE rfl rfl ?_; clear hE a; intro a hE
  refine s_call hE rfl Try.call28 (get_yes _ bs _ _ (hM.get 3 rfl) hg) rfl ?_
  rintro e w4 ⟨rfl, hN⟩
  refine ⟨_, rfl, trivial, ?_⟩; clear hE a; intro a hE
  replace hM : Mem _ _ w4 [_, _, _, _] := hM.call0 hN trivial; clear hN
  refine s_move hE rfl rfl ?_; clear hE a; intro a hE
  refine s_extract hE rfl rfl rfl ?_; clear hE a; intro a hE
  refine s_extract hE rfl rfl rfl ?_; clear hE a; intro a hE
  refine s_alloc [1, 32, 32, 32, 1, 1] hE hM zero67 rfl rfl ?_; clear hE a; intro a b9 w5 hE hM'
  clear hM; have hM := hM'; clear hM'
  refine s_storeSegs 0 6 (vss := [[.int .u64 ((val ((bs.drop 8).take 8) : Nat) : Int)], bv ((bs.drop 16).take 32), bv ((bs.drop 48).take 32), bv ((bs.drop 80).take 32), [.int .i64 ((val ((bs.drop 112).take 4) : Nat) : Int)], [.int .i64 ((val ((bs.drop 116).take 4) : Nat) : Int)]]) hE rfl rfl hM rfl sz67 (by have hl_s1 : ((bs.drop 16).take 32).length = 32 := (by simp [*]); have hl_s2 : ((bs.drop 48).take 32).length = 32 := (by simp [*]); have hl_s3 : ((bs.drop 80).take 32).length = 32 := (by simp [*]);  simp only [List.map_cons, List.map_nil, bv_length, List.length_cons, List.length_nil, List.take_succ_cons, List.take_zero, List.drop_zero, List.drop_succ_cons, hl_s1, hl_s2, hl_s3]) (by decide) rfl (one_fl ⟨one1 rfl, bv_one _, bv_one _, bv_one _, one1 rfl, one1 rfl, trivial⟩) rfl (by intro X h; cases h) ?_; intro w6 hM'; clear hM; have hM := hM'; clear hM'
  simp only [List.take_zero, List.take_succ_cons, List.drop_zero, List.drop_succ_cons, List.take_nil, List.drop_nil, List.nil_append, List.append_nil, List.cons_append] at hM
  refine s_assign hE rfl rfl ?_; clear hE a; intro a hE
  refine q_nil ?_
  replace hE : Env a 56 [(1, _), (2, _), (4, _), (5, _), (6, _), (7, _), (8, _), (9, _), (10, _)] := hE.sel [1, 2, 4, 5, 6, 7, 8, 9, 10] rfl
  refine hK4 _ _ ?_
  refine wp_seq_k (fun K5 hK5 => ?_)
  refine wp_plain [true, false, true, true, true, false, false, true] rfl rfl ?_
  refine s_move hE rfl rfl ?_; clear hE a; intro a hE
  refine s_call hE rfl Try.call29 (rget_yes _ bs _ _ (hM.get 4 rfl) hg) rfl ?_
  rintro e w7 ⟨rfl, hN⟩
  refine ⟨_, rfl, trivial, ?_⟩; clear hE a; intro a hE
  replace hM : Mem _ _ w7 [_, _, _, _, _] := hM.call0 hN trivial; clear hN
  refine s_move hE rfl rfl ?_; clear hE a; intro a hE
  refine s_extract hE rfl rfl rfl ?_; clear hE a; intro a hE
  refine s_extract hE rfl rfl rfl ?_; clear hE a; intro a hE
  refine s_alloc [1, 32, 32, 32, 1, 1] hE hM zero67 rfl rfl ?_; clear hE a; intro a b11 w8 hE hM'
  clear hM; have hM := hM'; clear hM'
  refine s_storeSegs 0 6 (vss := [[.int .u64 ((val ((bs.drop 8).take 8) : Nat) : Int)], bv ((bs.drop 16).take 32), bv ((bs.drop 48).take 32), bv ((bs.drop 80).take 32), [.int .i64 ((val ((bs.drop 112).take 4) : Nat) : Int)], [.int .i64 ((val ((bs.drop 116).take 4) : Nat) : Int)]]) hE rfl rfl hM rfl sz67 (by have hl_s1 : ((bs.drop 16).take 32).length = 32 := (by simp [*]); have hl_s2 : ((bs.drop 48).take 32).length = 32 := (by simp [*]); have hl_s3 : ((bs.drop 80).take 32).length = 32 := (by simp [*]);  simp only [List.map_cons, List.map_nil, bv_length, List.length_cons, List.length_nil, List.take_succ_cons, List.take_zero, List.drop_zero, List.drop_succ_cons, hl_s1, hl_s2, hl_s3]) (by decide) rfl (one_fl ⟨one1 rfl, bv_one _, bv_one _, bv_one _, one1 rfl, one1 rfl, trivial⟩) rfl (by intro X h; cases h) ?_; intro w9 hM'; clear hM; have hM := hM'; clear hM'
  simp only [List.take_zero, List.take_succ_cons, List.drop_zero, List.drop_succ_cons, List.take_nil, List.drop_nil, List.nil_append, List.append_nil, List.cons_append] at hM
  refine s_assign hE rfl rfl ?_; clear hE a; intro a hE
  refine q_nil ?_
  replace hE : Env a 56 [(1, _), (2, _), (4, _), (5, _), (6, _), (7, _), (8, _), (9, _), (10, _), (11, _), (12, _)] := hE.sel [1, 2, 4, 5, 6, 7, 8, 9, 10, 11, 12] rfl
  refine hK5 _ _ ?_
  refine wp_seq_k (fun K6 hK6 => ?_)
  refine wp_plain [true, true, true, true, true, true, true, true, true, true, true, true, true, true, true, true, true, true, true, true, true, false, true, true] rfl rfl ?_
  refine s_move hE rfl rfl ?_; clear hE a; intro a hE
  obtain ⟨cs34, hs34⟩ := own_rd (hM.get 3 rfl)
  refine s_toStr hE rfl Try.underlying55 Try.underlying5 Try.underlying9 hs34 (by intro X h; cases h) rfl ?_; clear hE a; intro a hE
  refine s_move hE rfl rfl ?_; clear hE a; intro a hE
  obtain ⟨cs36, hs36⟩ := own_rd (hM.get 2 rfl)
  refine s_toStr hE rfl Try.underlying55 Try.underlying5 Try.underlying9 hs36 (by intro X h; cases h) rfl ?_; clear hE a; intro a hE
  refine s_bin hE rfl rfl bins_str.1 rfl ?_; clear hE a; intro a hE
  refine s_move hE rfl rfl ?_; clear hE a; intro a hE
  replace hE := hE.cast 38 rfl (show _ = Value.bool true from (congrArg Value.bool (by first | (with_reducible exact decide_eq_true rfl) | decide +kernel | (simp; done))))
  refine g_yes hE rfl rfl ?_
  refine s_move hE rfl rfl ?_; clear hE a; intro a hE
  refine g_yes hE rfl rfl ?_
  refine s_move hE rfl rfl ?_; clear hE a; intro a hE
  refine g_yes hE rfl rfl ?_
  refine s_bin hE rfl rfl bin_eql rfl ?_; clear hE a; intro a hE
  refine s_pickt hE rfl rfl rfl ?_; clear hE a; intro a hE
  refine s_move hE rfl rfl ?_; clear hE a; intro a hE
  replace hE := hE.cast 43 rfl (show _ = Value.bool true from (congrArg Value.bool (by first | (with_reducible exact decide_eq_true rfl) | decide +kernel | (simp; done))))
  refine g_yes hE rfl rfl ?_
  refine s_loadN hE rfl (hM.get 1 rfl) row67 rfl (by intro X h; cases h) rfl ?_; clear hE a; intro a hE
  replace hE := hE.cast 44 rfl (show _ = Value.agg ([[.int .u64 ((val ((bs.drop 8).take 8) : Nat) : Int)], bv ((bs.drop 16).take 32), bv ((bs.drop 48).take 32), bv ((bs.drop 80).take 32), [.int .i64 ((val ((bs.drop 112).take 4) : Nat) : Int)], [.int .i64 ((val ((bs.drop 116).take 4) : Nat) : Int)]] : List (List Value)).flatten.toArray from (by first | rfl | simp))
  refine g_yes hE rfl rfl ?_
  refine s_loadN hE rfl (hM.get 0 rfl) row67 rfl (by intro X h; cases h) rfl ?_; clear hE a; intro a hE
  replace hE := hE.cast 45 rfl (show _ = Value.agg ([[.int .u64 ((val ((bs.drop 8).take 8) : Nat) : Int)], bv ((bs.drop 16).take 32), bv ((bs.drop 48).take 32), bv ((bs.drop 80).take 32), [.int .i64 ((val ((bs.drop 112).take 4) : Nat) : Int)], [.int .i64 ((val ((bs.drop 116).take 4) : Nat) : Int)]] : List (List Value)).flatten.toArray from (by first | rfl | simp))
  refine g_yes hE rfl rfl ?_
  refine s_bin hE rfl rfl ((eqk67 (b := decide ((((val ((bs.drop 8).take 8) : Nat) : Int) : Int) = ((val ((bs.drop 8).take 8) : Nat) : Int) ∧ ((bs.drop 16).take 32) = ((bs.drop 16).take 32) ∧ ((bs.drop 48).take 32) = ((bs.drop 48).take 32) ∧ ((bs.drop 80).take 32) = ((bs.drop 80).take 32) ∧ (((val ((bs.drop 112).take 4) : Nat) : Int) : Int) = ((val ((bs.drop 112).take 4) : Nat) : Int) ∧ (((val ((bs.drop 116).take 4) : Nat) : Int) : Int) = ((val ((bs.drop 116).take 4) : Nat) : Int))) (kl67 (k := 0) (x0 := ((val ((bs.drop 8).take 8) : Nat) : Int)) (x1 := (bs.drop 16).take 32) (x2 := (bs.drop 48).take 32) (x3 := (bs.drop 80).take 32) (x4 := ((val ((bs.drop 112).take 4) : Nat) : Int)) (x5 := ((val ((bs.drop 116).take 4) : Nat) : Int)) (by simp [Lit.wf, IntKind.min, IntKind.max, IntKind.signed, IntKind.bits]; try omega) (by simp [*]) (by simp [*]) (by simp [*]) (by simp [Lit.wf, IntKind.min, IntKind.max, IntKind.signed, IntKind.bits]; try omega) (by simp [Lit.wf, IntKind.min, IntKind.max, IntKind.signed, IntKind.bits]; try omega)) (kl67 (k := 0) (x0 := ((val ((bs.drop 8).take 8) : Nat) : Int)) (x1 := (bs.drop 16).take 32) (x2 := (bs.drop 48).take 32) (x3 := (bs.drop 80).take 32) (x4 := ((val ((bs.drop 112).take 4) : Nat) : Int)) (x5 := ((val ((bs.drop 116).take 4) : Nat) : Int)) (by simp [Lit.wf, IntKind.min, IntKind.max, IntKind.signed, IntKind.bits]; try omega) (by simp [*]) (by simp [*]) (by simp [*]) (by simp [Lit.wf, IntKind.min, IntKind.max, IntKind.signed, IntKind.bits]; try omega) (by simp [Lit.wf, IntKind.min, IntKind.max, IntKind.signed, IntKind.bits]; try omega)) (by rw [flat_eq (by have hl_x1 : ((bs.drop 16).take 32).length = 32 := (by simp [*]); have hl_x2 : ((bs.drop 48).take 32).length = 32 := (by simp [*]); have hl_x3 : ((bs.drop 80).take 32).length = 32 := (by simp [*]); have hl_y1 : ((bs.drop 16).take 32).length = 32 := (by simp [*]); have hl_y2 : ((bs.drop 48).take 32).length = 32 := (by simp [*]); have hl_y3 : ((bs.drop 80).take 32).length = 32 := (by simp [*]); simp [*])]; simp [bv_iff, Int.ofNat_inj]; try omega)).1) rfl ?_; clear hE a; intro a hE
  refine s_pickt hE rfl rfl rfl ?_; clear hE a; intro a hE
  refine s_move hE rfl rfl ?_; clear hE a; intro a hE
  replace hE := hE.cast 48 rfl (show _ = Value.bool true from (congrArg Value.bool (by first | (with_reducible exact decide_eq_true rfl) | decide +kernel | (simp; done))))
  refine g_yes hE rfl rfl ?_
  refine s_move hE rfl rfl ?_; clear hE a; intro a hE
  refine g_yes hE rfl rfl ?_
  refine s_move hE rfl rfl ?_; clear hE a; intro a hE
  refine g_yes hE rfl rfl ?_
  refine s_bin hE rfl rfl bin_eql rfl ?_; clear hE a; intro a hE
  replace hE := hE.cast 51 rfl (show _ = Value.bool true from (congrArg Value.bool (by decide)))
  refine s_pickt hE rfl rfl rfl ?_; clear hE a; intro a hE
  refine s_move hE rfl rfl ?_; clear hE a; intro a hE
  refine g_yes hE rfl rfl ?_
  refine s_call hE rfl Try.call30 (awake21_c  _ ) rfl ?_
  rintro e w10 ⟨rfl, hN⟩
  refine ⟨_, rfl, trivial, ?_⟩; clear hE a; intro a hE
  replace hM : Mem _ _ w10 [_, _, _, _, _, _] := hM.call0 hN trivial; clear hN
  refine s_pickt hE rfl rfl rfl ?_; clear hE a; intro a hE
  refine s_assign hE rfl rfl ?_; clear hE a; intro a hE
  refine q_nil ?_
  replace hE : Env a 56 [(1, _), (2, _), (4, _), (9, _), (11, _)] := hE.sel [1, 2, 4, 9, 11] rfl
  refine hK6 _ _ ?_
  refine wp_ret ?_
  refine f_ret1 hE rfl rfl ?_
  exact ⟨(by first | rfl | (simp; done)), hM.pick [] rfl⟩
theorem recordRoots_no (rc : Nat) (rt : List UInt8) (rh : List UInt8) (rb : List UInt8) (rm : Int) (ry : Int) (v : Value) (bs : List UInt8) (c : Nat) (w : World) (hl_rt : rt.length = 32) (hl_rh : rh.length = 32) (hl_rb : rb.length = 32) (hr_bs : (rd v 1 bs.length c (bv bs)).holds w) (hc : rc < 18446744073709551616) (hm : -9223372036854775808 ≤ rm ∧ rm ≤ 9223372036854775807) (hy : -9223372036854775808 ≤ ry ∧ ry ≤ 9223372036854775807) (hg : getOk bs = false) : Calls Try.prog 8 #[.agg ([[.int .u64 ((rc : Nat) : Int)], bv rt, bv rh, bv rb, [.int .i64 rm], [.int .i64 ry]] : List (List Value)).flatten.toArray, v] w fun e w' => e = .returned (.bool true) ∧ Mem w [] w' [] := by
  have hM : Mem w [] w [rd v 1 bs.length c (bv bs)] := Mem.startR w (fun g hg => by
    simp only [List.mem_cons, List.not_mem_nil, or_false] at hg
    rcases hg with rfl
    · exact ⟨hr_bs, rfl⟩)
  refine f_enter 56 Try.func8 rfl rfl rfl ?_
  intro a hE
  replace hE : Env a 56 [(0, _), (1, _)] := hE
  refine wp_seq_k (fun K1 hK1 => ?_)
  refine wp_plain [false, true] rfl rfl ?_
  refine s_box (ss := [[.int .u64 ((rc : Nat) : Int)], bv rt, bv rh, bv rb, [.int .i64 rm], [.int .i64 ry]]) [1, 32, 32, 32, 1, 1] hE hM rfl rfl (by simp [*]) rfl ?_; clear hE a; intro a b2 w1 hE hM'
  clear hM; have hM := hM'; clear hM'
  refine s_assign hE rfl rfl ?_; clear hE a; intro a hE
  refine q_nil ?_
  replace hE : Env a 56 [(1, _), (2, _), (4, _)] := hE.sel [1, 2, 4] rfl
  refine hK1 _ _ ?_
  refine wp_seq_k (fun K2 hK2 => ?_)
  refine wp_plain [true, false, true, true, true, true, true] rfl rfl ?_
  refine s_loadN hE rfl (hM.get 0 rfl) row67 rfl (by intro X h; cases h) rfl ?_; clear hE a; intro a hE
  replace hE := hE.cast 14 rfl (show _ = Value.agg ([[.int .u64 ((rc : Nat) : Int)], bv rt, bv rh, bv rb, [.int .i64 rm], [.int .i64 ry]] : List (List Value)).flatten.toArray from (by first | rfl | simp))
  refine s_call hE rfl Try.call26 (put_a rc rt rh rb rm ry _ hl_rt hl_rh hl_rb) rfl ?_
  rintro e w2 ⟨v15, rfl, hN⟩
  refine ⟨_, rfl, trivial, ?_⟩; clear hE a; intro a hE
  replace hM : Mem _ _ w2 [_, _, _] := hM.call0 hN ⟨rfl, trivial⟩; clear hN
  refine s_move hE rfl rfl ?_; clear hE a; intro a hE
  refine s_extract hE rfl rfl rfl ?_; clear hE a; intro a hE
  refine s_extract hE rfl rfl rfl ?_; clear hE a; intro a hE
  refine s_assign hE rfl rfl ?_; clear hE a; intro a hE
  refine s_assign hE rfl rfl ?_; clear hE a; intro a hE
  refine q_nil ?_
  replace hE : Env a 56 [(1, _), (2, _), (4, _), (5, _), (6, _)] := hE.sel [1, 2, 4, 5, 6] rfl
  refine hK2 _ _ ?_
  refine wp_seq_k (fun K3 hK3 => ?_)
  refine wp_plain [true, false, true, true, true, true, true] rfl rfl ?_
  refine s_loadN hE rfl (hM.get 1 rfl) row67 rfl (by intro X h; cases h) rfl ?_; clear hE a; intro a hE
  replace hE := hE.cast 19 rfl (show _ = Value.agg ([[.int .u64 ((rc : Nat) : Int)], bv rt, bv rh, bv rb, [.int .i64 rm], [.int .i64 ry]] : List (List Value)).flatten.toArray from (by first | rfl | simp))
  refine s_call hE rfl Try.call27 (rput_a rc rt rh rb rm ry _ hl_rt hl_rh hl_rb) rfl ?_
  rintro e w3 ⟨v20, rfl, hN⟩
  refine ⟨_, rfl, trivial, ?_⟩; clear hE a; intro a hE
  replace hM : Mem _ _ w3 [_, _, _, _] := hM.call0 hN ⟨rfl, trivial⟩; clear hN
  refine s_move hE rfl rfl ?_; clear hE a; intro a hE
  refine s_extract hE rfl rfl rfl ?_; clear hE a; intro a hE
  refine s_extract hE rfl rfl rfl ?_; clear hE a; intro a hE
  refine s_assign hE rfl rfl ?_; clear hE a; intro a hE
  refine s_assign hE rfl rfl ?_; clear hE a; intro a hE
  refine q_nil ?_
  replace hE : Env a 56 [(1, _), (2, _), (4, _), (5, _), (6, _), (7, _), (8, _)] := hE.sel [1, 2, 4, 5, 6, 7, 8] rfl
  refine hK3 _ _ ?_
  refine wp_seq_k (fun K4 hK4 => ?_)
  refine wp_plain [true, false, true, true, true, false, false, true] rfl rfl ?_
  refine s_move hE rfl rfl ?_; clear hE a; intro a hE
  refine s_call hE rfl Try.call28 (get_no _ bs _ _ (hM.get 3 rfl) hg) rfl ?_
  rintro e w4 ⟨rfl, hN⟩
  refine ⟨_, rfl, trivial, ?_⟩; clear hE a; intro a hE
  replace hM : Mem _ _ w4 [_, _, _, _] := hM.call0 hN trivial; clear hN
  refine s_move hE rfl rfl ?_; clear hE a; intro a hE
  refine s_extract hE rfl rfl rfl ?_; clear hE a; intro a hE
  refine s_extract hE rfl rfl rfl ?_; clear hE a; intro a hE
  refine s_alloc [1, 32, 32, 32, 1, 1] hE hM zero67 rfl rfl ?_; clear hE a; intro a b9 w5 hE hM'
  clear hM; have hM := hM'; clear hM'
  refine s_storeSegs 0 6 (vss := [[.int .u64 0], bv (List.replicate 32 (0 : UInt8)), bv (List.replicate 32 (0 : UInt8)), bv (List.replicate 32 (0 : UInt8)), [.int .i64 0], [.int .i64 0]]) hE rfl rfl hM rfl sz67 (by have hl_s1 : (List.replicate 32 (0 : UInt8)).length = 32 := (by first | (simp; done) | (simp [*]; done) | (simp; omega)); have hl_s2 : (List.replicate 32 (0 : UInt8)).length = 32 := (by first | (simp; done) | (simp [*]; done) | (simp; omega)); have hl_s3 : (List.replicate 32 (0 : UInt8)).length = 32 := (by first | (simp; done) | (simp [*]; done) | (simp; omega));  simp only [List.map_cons, List.map_nil, bv_length, List.length_cons, List.length_nil, List.take_succ_cons, List.take_zero, List.drop_zero, List.drop_succ_cons, hl_s1, hl_s2, hl_s3]) (by decide) rfl (one_fl ⟨one1 rfl, bv_one _, bv_one _, bv_one _, one1 rfl, one1 rfl, trivial⟩) rfl (by intro X h; cases h) ?_; intro w6 hM'; clear hM; have hM := hM'; clear hM'
  simp only [List.take_zero, List.take_succ_cons, List.drop_zero, List.drop_succ_cons, List.take_nil, List.drop_nil, List.nil_append, List.append_nil, List.cons_append] at hM
  refine s_assign hE rfl rfl ?_; clear hE a; intro a hE
  refine q_nil ?_
  replace hE : Env a 56 [(1, _), (2, _), (4, _), (5, _), (6, _), (7, _), (8, _), (9, _), (10, _)] := hE.sel [1, 2, 4, 5, 6, 7, 8, 9, 10] rfl
  refine hK4 _ _ ?_
  refine wp_seq_k (fun K5 hK5 => ?_)
  refine wp_plain [true, false, true, true, true, false, false, true] rfl rfl ?_
  refine s_move hE rfl rfl ?_; clear hE a; intro a hE
  refine s_call hE rfl Try.call29 (rget_no _ bs _ _ (hM.get 4 rfl) hg) rfl ?_
  rintro e w7 ⟨rfl, hN⟩
  refine ⟨_, rfl, trivial, ?_⟩; clear hE a; intro a hE
  replace hM : Mem _ _ w7 [_, _, _, _, _] := hM.call0 hN trivial; clear hN
  refine s_move hE rfl rfl ?_; clear hE a; intro a hE
  refine s_extract hE rfl rfl rfl ?_; clear hE a; intro a hE
  refine s_extract hE rfl rfl rfl ?_; clear hE a; intro a hE
  refine s_alloc [1, 32, 32, 32, 1, 1] hE hM zero67 rfl rfl ?_; clear hE a; intro a b11 w8 hE hM'
  clear hM; have hM := hM'; clear hM'
  refine s_storeSegs 0 6 (vss := [[.int .u64 0], bv (List.replicate 32 (0 : UInt8)), bv (List.replicate 32 (0 : UInt8)), bv (List.replicate 32 (0 : UInt8)), [.int .i64 0], [.int .i64 0]]) hE rfl rfl hM rfl sz67 (by have hl_s1 : (List.replicate 32 (0 : UInt8)).length = 32 := (by first | (simp; done) | (simp [*]; done) | (simp; omega)); have hl_s2 : (List.replicate 32 (0 : UInt8)).length = 32 := (by first | (simp; done) | (simp [*]; done) | (simp; omega)); have hl_s3 : (List.replicate 32 (0 : UInt8)).length = 32 := (by first | (simp; done) | (simp [*]; done) | (simp; omega));  simp only [List.map_cons, List.map_nil, bv_length, List.length_cons, List.length_nil, List.take_succ_cons, List.take_zero, List.drop_zero, List.drop_succ_cons, hl_s1, hl_s2, hl_s3]) (by decide) rfl (one_fl ⟨one1 rfl, bv_one _, bv_one _, bv_one _, one1 rfl, one1 rfl, trivial⟩) rfl (by intro X h; cases h) ?_; intro w9 hM'; clear hM; have hM := hM'; clear hM'
  simp only [List.take_zero, List.take_succ_cons, List.drop_zero, List.drop_succ_cons, List.take_nil, List.drop_nil, List.nil_append, List.append_nil, List.cons_append] at hM
  refine s_assign hE rfl rfl ?_; clear hE a; intro a hE
  refine q_nil ?_
  replace hE : Env a 56 [(1, _), (2, _), (4, _), (5, _), (6, _), (7, _), (8, _), (9, _), (10, _), (11, _), (12, _)] := hE.sel [1, 2, 4, 5, 6, 7, 8, 9, 10, 11, 12] rfl
  refine hK5 _ _ ?_
  refine wp_seq_k (fun K6 hK6 => ?_)
  refine wp_plain [true, true, true, true, true, true, true, true, true, true, true, true, true, true, true, true, true, true, true, true, true, false, true, true] rfl rfl ?_
  refine s_move hE rfl rfl ?_; clear hE a; intro a hE
  obtain ⟨cs34, hs34⟩ := own_rd (hM.get 3 rfl)
  refine s_toStr hE rfl Try.underlying55 Try.underlying5 Try.underlying9 hs34 (by intro X h; cases h) rfl ?_; clear hE a; intro a hE
  refine s_move hE rfl rfl ?_; clear hE a; intro a hE
  obtain ⟨cs36, hs36⟩ := own_rd (hM.get 2 rfl)
  refine s_toStr hE rfl Try.underlying55 Try.underlying5 Try.underlying9 hs36 (by intro X h; cases h) rfl ?_; clear hE a; intro a hE
  refine s_bin hE rfl rfl bins_str.1 rfl ?_; clear hE a; intro a hE
  refine s_move hE rfl rfl ?_; clear hE a; intro a hE
  replace hE := hE.cast 38 rfl (show _ = Value.bool true from (congrArg Value.bool (by first | (with_reducible exact decide_eq_true rfl) | decide +kernel | (simp; done))))
  refine g_yes hE rfl rfl ?_
  refine s_move hE rfl rfl ?_; clear hE a; intro a hE
  refine g_yes hE rfl rfl ?_
  refine s_move hE rfl rfl ?_; clear hE a; intro a hE
  refine g_yes hE rfl rfl ?_
  refine s_bin hE rfl rfl bin_eql rfl ?_; clear hE a; intro a hE
  refine s_pickt hE rfl rfl rfl ?_; clear hE a; intro a hE
  refine s_move hE rfl rfl ?_; clear hE a; intro a hE
  replace hE := hE.cast 43 rfl (show _ = Value.bool true from (congrArg Value.bool (by first | (with_reducible exact decide_eq_true rfl) | decide +kernel | (simp; done))))
  refine g_yes hE rfl rfl ?_
  refine s_loadN hE rfl (hM.get 1 rfl) row67 rfl (by intro X h; cases h) rfl ?_; clear hE a; intro a hE
  replace hE := hE.cast 44 rfl (show _ = Value.agg ([[.int .u64 0], bv (List.replicate 32 (0 : UInt8)), bv (List.replicate 32 (0 : UInt8)), bv (List.replicate 32 (0 : UInt8)), [.int .i64 0], [.int .i64 0]] : List (List Value)).flatten.toArray from (by first | rfl | simp))
  refine g_yes hE rfl rfl ?_
  refine s_loadN hE rfl (hM.get 0 rfl) row67 rfl (by intro X h; cases h) rfl ?_; clear hE a; intro a hE
  replace hE := hE.cast 45 rfl (show _ = Value.agg ([[.int .u64 0], bv (List.replicate 32 (0 : UInt8)), bv (List.replicate 32 (0 : UInt8)), bv (List.replicate 32 (0 : UInt8)), [.int .i64 0], [.int .i64 0]] : List (List Value)).flatten.toArray from (by first | rfl | simp))
  refine g_yes hE rfl rfl ?_
  refine s_bin hE rfl rfl ((eqk67 (b := decide ((0 : Int) = 0 ∧ (List.replicate 32 (0 : UInt8)) = (List.replicate 32 (0 : UInt8)) ∧ (List.replicate 32 (0 : UInt8)) = (List.replicate 32 (0 : UInt8)) ∧ (List.replicate 32 (0 : UInt8)) = (List.replicate 32 (0 : UInt8)) ∧ (0 : Int) = 0 ∧ (0 : Int) = 0)) (kl67 (k := 0) (x0 := 0) (x1 := List.replicate 32 (0 : UInt8)) (x2 := List.replicate 32 (0 : UInt8)) (x3 := List.replicate 32 (0 : UInt8)) (x4 := 0) (x5 := 0) (by simp [Lit.wf, IntKind.min, IntKind.max, IntKind.signed, IntKind.bits]; try omega) (by first | (simp; done) | (simp [*]; done) | (simp; omega)) (by first | (simp; done) | (simp [*]; done) | (simp; omega)) (by first | (simp; done) | (simp [*]; done) | (simp; omega)) (by simp [Lit.wf, IntKind.min, IntKind.max, IntKind.signed, IntKind.bits]; try omega) (by simp [Lit.wf, IntKind.min, IntKind.max, IntKind.signed, IntKind.bits]; try omega)) (kl67 (k := 0) (x0 := 0) (x1 := List.replicate 32 (0 : UInt8)) (x2 := List.replicate 32 (0 : UInt8)) (x3 := List.replicate 32 (0 : UInt8)) (x4 := 0) (x5 := 0) (by simp [Lit.wf, IntKind.min, IntKind.max, IntKind.signed, IntKind.bits]; try omega) (by first | (simp; done) | (simp [*]; done) | (simp; omega)) (by first | (simp; done) | (simp [*]; done) | (simp; omega)) (by first | (simp; done) | (simp [*]; done) | (simp; omega)) (by simp [Lit.wf, IntKind.min, IntKind.max, IntKind.signed, IntKind.bits]; try omega) (by simp [Lit.wf, IntKind.min, IntKind.max, IntKind.signed, IntKind.bits]; try omega)) (by rw [flat_eq (by have hl_x1 : (List.replicate 32 (0 : UInt8)).length = 32 := (by first | (simp; done) | (simp [*]; done) | (simp; omega)); have hl_x2 : (List.replicate 32 (0 : UInt8)).length = 32 := (by first | (simp; done) | (simp [*]; done) | (simp; omega)); have hl_x3 : (List.replicate 32 (0 : UInt8)).length = 32 := (by first | (simp; done) | (simp [*]; done) | (simp; omega)); have hl_y1 : (List.replicate 32 (0 : UInt8)).length = 32 := (by first | (simp; done) | (simp [*]; done) | (simp; omega)); have hl_y2 : (List.replicate 32 (0 : UInt8)).length = 32 := (by first | (simp; done) | (simp [*]; done) | (simp; omega)); have hl_y3 : (List.replicate 32 (0 : UInt8)).length = 32 := (by first | (simp; done) | (simp [*]; done) | (simp; omega)); simp [*])]; simp [bv_iff, Int.ofNat_inj]; try omega)).1) rfl ?_; clear hE a; intro a hE
  refine s_pickt hE rfl rfl rfl ?_; clear hE a; intro a hE
  refine s_move hE rfl rfl ?_; clear hE a; intro a hE
  replace hE := hE.cast 48 rfl (show _ = Value.bool true from (congrArg Value.bool (by first | (with_reducible exact decide_eq_true rfl) | decide +kernel | (simp; done))))
  refine g_yes hE rfl rfl ?_
  refine s_move hE rfl rfl ?_; clear hE a; intro a hE
  refine g_yes hE rfl rfl ?_
  refine s_move hE rfl rfl ?_; clear hE a; intro a hE
  refine g_yes hE rfl rfl ?_
  refine s_bin hE rfl rfl bin_eql rfl ?_; clear hE a; intro a hE
  replace hE := hE.cast 51 rfl (show _ = Value.bool true from (congrArg Value.bool (by decide)))
  refine s_pickt hE rfl rfl rfl ?_; clear hE a; intro a hE
  refine s_move hE rfl rfl ?_; clear hE a; intro a hE
  refine g_yes hE rfl rfl ?_
  refine s_call hE rfl Try.call30 (awake21_c  _ ) rfl ?_
  rintro e w10 ⟨rfl, hN⟩
  refine ⟨_, rfl, trivial, ?_⟩; clear hE a; intro a hE
  replace hM : Mem _ _ w10 [_, _, _, _, _, _] := hM.call0 hN trivial; clear hN
  refine s_pickt hE rfl rfl rfl ?_; clear hE a; intro a hE
  refine s_assign hE rfl rfl ?_; clear hE a; intro a hE
  refine q_nil ?_
  replace hE : Env a 56 [(1, _), (2, _), (4, _), (9, _), (11, _)] := hE.sel [1, 2, 4, 9, 11] rfl
  refine hK6 _ _ ?_
  refine wp_ret ?_
  refine f_ret1 hE rfl rfl ?_
  exact ⟨(by first | rfl | (simp; done)), hM.pick [] rfl⟩
theorem recordRoots_c (rc : Nat) (rt rh rb : List UInt8) (rm ry : Int) (v : Value) (bs : List UInt8) (c : Nat) (w : World) (ht : rt.length = 32) (hh : rh.length = 32) (hb : rb.length = 32) (hr : (rd v 1 bs.length c (bv bs)).holds w) (hc : rc < 18446744073709551616) (hm : -9223372036854775808 ≤ rm ∧ rm ≤ 9223372036854775807) (hy : -9223372036854775808 ≤ ry ∧ ry ≤ 9223372036854775807) :
    Calls Try.prog 8 #[.agg ([[.int .u64 ((rc : Nat) : Int)], bv rt, bv rh, bv rb, [.int .i64 rm], [.int .i64 ry]] : List (List Value)).flatten.toArray, v] w fun e w' => e = .returned (.bool true) ∧ Mem w [] w' [] := by
  cases hg : getOk bs
  · exact recordRoots_no rc rt rh rb rm ry v bs c w ht hh hb hr hc hm hy hg
  · exact recordRoots_yes rc rt rh rb rm ry v bs c w ht hh hb hr hc hm hy hg
set_option maxRecDepth 100000 in
theorem recordRoots_lifted (os : Os) (started : os.Started) (H : Type) (enc : TypeId × Value → H) :
    ReturnsInHanded {} Try.checked os 8 .any (Rows.recordRootsSpec.pre6 enc Try.prog Try.f8 Rows.recordRootsRow.domain false) (Rows.recordRootsSpec.post enc Try.prog Try.f8 false true false false) := by
  refine law_lifted (C := Try.checked) (fn := Try.f8) (by kernel_rfl) started (by kernel_rfl) Try.func8 rfl (fun ds hl => ?_) rfl Try.underlying4 (by kernel_rfl) (of_decide_eq_true (by kernel_rfl)) (ChangeSpec.witness6 (enc := enc) (C := Try.checked) false ⟨#[], #[.agg ([[.int .u64 0], bv (List.replicate 32 0), bv (List.replicate 32 0), bv (List.replicate 32 0), [.int .i64 0], [.int .i64 0]] : List (List Value)).flatten.toArray, .slice none 0 0], []⟩ 8 (by kernel_rfl) (by kernel_rfl) (by kernel_rfl) (by kernel_rfl)) ?_
  · rw [Try.params8] at hl
    match ds, hl with
    | [_, _], _ => rfl
  · intro W base args ds ps hval hA hw
    rw [Try.params8] at hA hval hw
    obtain ⟨v0, vs0, d0, ds0, p0, q0, hargs, rfl, rfl, h0, r0⟩ := trodAll_cons hA
    obtain ⟨v1, vs1, d1, ds1, p1, q1, rfl, rfl, rfl, h1, r1⟩ := trodAll_cons r0
    obtain ⟨rfl, rfl, rfl⟩ := trodAll_nil r1
    obtain rfl : args = #[v0, v1] := by cases args; simp_all
    obtain ⟨cs0, rfl, hcs0⟩ := okWide_struct Try.underlying67 (hval 0 67 v0 rfl rfl)
    obtain ⟨hl0, hp0⟩ := trod_of (dec_structL (t := 67) (s := 99) [(24, 0, 1, _), (27, 1, 32, _), (27, 33, 32, _), (27, 65, 32, _), (3, 97, 1, _), (3, 98, 1, _)] Try.underlying67 (by kernel_rfl) (by kernel_rfl) (by
      intro p hp; simp only [List.mem_cons, List.not_mem_nil, or_false] at hp
      rcases hp with rfl | rfl | rfl | rfl | rfl | rfl
      · exact dec_int Try.underlying24
      · exact dec_arr8 Try.underlying27 Try.underlying5 (by kernel_rfl) (by kernel_rfl)
      · exact dec_arr8 Try.underlying27 Try.underlying5 (by kernel_rfl) (by kernel_rfl)
      · exact dec_arr8 Try.underlying27 Try.underlying5 (by kernel_rfl) (by kernel_rfl)
      · exact dec_int Try.underlying3
      · exact dec_int Try.underlying3)) h0 (fun m hm => hw m (by simp only [DataW.weightsEach, List.mem_append]; exact .inl hm))
    obtain ⟨zca, hq0_0, hq0_0a, hq0_0b⟩ := hp0 _ (.head _)
    obtain ⟨ta, hq0_1, hta⟩ := hp0 _ (.tail _ (.head _))
    obtain ⟨ha, hq0_2, hha⟩ := hp0 _ (.tail _ (.tail _ (.head _)))
    obtain ⟨ba, hq0_3, hba⟩ := hp0 _ (.tail _ (.tail _ (.tail _ (.head _))))
    obtain ⟨ma, hq0_4, hq0_4a, hq0_4b⟩ := hp0 _ (.tail _ (.tail _ (.tail _ (.tail _ (.head _)))))
    obtain ⟨ya, hq0_5, hq0_5a, hq0_5b⟩ := hp0 _ (.tail _ (.tail _ (.tail _ (.tail _ (.tail _ (.head _))))))
    have ecs0 := agg_of (cut_all [1, 32, 32, 32, 1, 1] (ps := [[.int .u64 zca], bv ta, bv ha, bv ba, [.int .i64 ma], [.int .i64 ya]]) hl0 ⟨hq0_0, hq0_1, hq0_2, hq0_3, hq0_4, hq0_5, trivial⟩)
    subst ecs0
    obtain ⟨ca, rfl⟩ := Int.eq_ofNat_of_zero_le (show 0 ≤ zca from hq0_0a)
    have hca : ca < 18446744073709551616 := by have h : (ca : Int) ≤ 18446744073709551615 := hq0_0b; omega
    have hma : -9223372036854775808 ≤ ma ∧ ma ≤ 9223372036854775807 := ⟨hq0_4a, hq0_4b⟩
    have hya : -9223372036854775808 ≤ ya ∧ ya ≤ 9223372036854775807 := ⟨hq0_5a, hq0_5b⟩
    obtain ⟨bs1, c1, hr1, hb1⟩ := arg_bytes Try.underlying55 Try.underlying5 (by kernel_rfl) (by kernel_rfl) (hval 1 55 v1 rfl rfl) h1 (fun m hm => hw m (by simp only [DataW.weightsEach, List.mem_append]; exact .inr (.inl hm)))
    exact recordRoots_c ca ta ha ba ma ya v1 bs1 c1 W hta hha hba hr1 hca hma hya

/-- The statement. -/
theorem recordRoots_holds : Rows.RecordRootsSaid :=
  OpenClaim.holds_of_wide 8 Try.f8 rfl rfl rfl rfl rfl rfl rfl ⟨rfl, rfl, rfl, rfl, rfl⟩ rfl rfl rfl rfl rfl (by kernel_rfl) Try.func8 (by kernel_rfl)
    (of_decide_eq_true (by kernel_rfl)) (by unfold Func.isWrapper; first | (rw [if_pos (by decide +kernel)]; kernel_rfl) | (rw [if_neg (by decide +kernel)]; exact ⟨rfl, rfl⟩))
    (fun os started H enc _ => recordRoots_lifted os started H enc)
#print axioms recordRoots_holds
end Go.Proofs.Ytlieojojahhmmaa
