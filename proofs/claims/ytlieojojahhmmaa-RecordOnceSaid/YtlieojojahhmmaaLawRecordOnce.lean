/- RecordOnce of casematelaw21 returns true for whatever bytes; they read behind the call as before. No condition. -/
import Derived.Test.YtlieojojahhmmaaLk
set_option linter.unusedSimpArgs false
set_option linter.unusedVariables false
namespace Go.Proofs.Ytlieojojahhmmaa
open Go Go.Kx
open Go.ChangeShapes Go.WideShapes Go.ChangeAt Go.RowKit

theorem recordOnce_yes (v : Value) (bs : List UInt8) (c : Nat) (w : World) (hr_bs : (rd v 1 bs.length c (bv bs)).holds w) (hg : getOk bs = true) : Calls Try.prog 14 #[v] w fun e w' => e = .returned (.bool true) ∧ Mem w [] w' [] := by
  obtain ⟨hag, hae⟩ := root_again hg
  have hl := (getOk_facts hg).1
  have hv4a := val4 (l := (bs.drop 112).take 4) (by simp [hl])
  have hv4b := val4 (l := (bs.drop 116).take 4) (by simp [hl])
  have hv8 := val8 (l := (bs.drop 8).take 8) (by simp [hl])
  have hM : Mem w [] w [rd v 1 bs.length c (bv bs)] := Mem.startR w (fun g hg => by
    simp only [List.mem_cons, List.not_mem_nil, or_false] at hg
    rcases hg with rfl
    · exact ⟨hr_bs, rfl⟩)
  refine f_enter 61 Try.func14 rfl rfl rfl ?_
  intro a hE
  replace hE : Env a 61 [(0, _)] := hE
  refine wp_seq_k (fun K1 hK1 => ?_)
  refine wp_plain [true] rfl rfl ?_
  refine s_assign hE rfl rfl ?_; clear hE a; intro a hE
  refine q_nil ?_
  refine hK1 _ _ ?_
  refine wp_seq_k (fun K2 hK2 => ?_)
  refine wp_seq_k (fun K3 hK3 => ?_)
  refine wp_plain [true, true, true] rfl rfl ?_
  refine s_move hE rfl rfl ?_; clear hE a; intro a hE
  refine s_len hE rfl Try.underlying55 (rd_slice (hM.get 0 rfl)) rfl ?_; clear hE a; intro a hE
  refine s_bin hE rfl rfl bin_gtr rfl ?_; clear hE a; intro a hE
  refine q_nil ?_
  replace hE : Env a 61 [(0, _), (2, _), (13, _)] := hE.sel [0, 2, 13] rfl
  refine hK3 _ _ ?_
  refine hE.split 13 rfl (fun hb13 hE' => ?_) (fun hb13 hE' => ?_)
  · replace hE := hE'; clear hE'
    replace hb13 := of_decide_eq_true hb13
    replace hb13 : 5000 < bs.length := by omega
    refine wp_cond_true (hE.eval rfl) ?_
    refine wp_seq_k (fun K4 hK4 => ?_)
    refine wp_plain [false, true] rfl rfl ?_
    refine s_call hE rfl Try.call30 (awake21_c  _ ) rfl ?_
    rintro e w1 ⟨rfl, hN⟩
    refine ⟨_, rfl, trivial, ?_⟩; clear hE a; intro a hE
    replace hM : Mem _ _ w1 [_] := hM.call0 hN trivial; clear hN
    refine s_assign hE rfl rfl ?_; clear hE a; intro a hE
    refine q_nil ?_
    replace hE : Env a 61 [(0, _), (2, _), (13, _)] := hE.sel [0, 2, 13] rfl
    refine hK4 _ _ ?_
    refine wp_ret ?_
    refine q_then_r ?_
    refine f_ret1 hE rfl rfl ?_
    exact ⟨(by first | rfl | (simp; done)), hM.pick [] rfl⟩
  · replace hE := hE'; clear hE'
    replace hb13 := of_decide_eq_false hb13
    replace hb13 : ¬ (5000 < bs.length) := by omega
    refine wp_cond_false (hE.eval rfl) ?_
    refine wp_skip ?_
    refine hK2 _ _ ?_
    refine wp_seq_k (fun K4 hK4 => ?_)
    refine wp_plain [true, false, true, true, true, false, false, true] rfl rfl ?_
    refine s_move hE rfl rfl ?_; clear hE a; intro a hE
    refine s_call hE rfl Try.call28 (get_yes _ bs _ _ (hM.get 0 rfl) hg) rfl ?_
    rintro e w1 ⟨rfl, hN⟩
    refine ⟨_, rfl, trivial, ?_⟩; clear hE a; intro a hE
    replace hM : Mem _ _ w1 [_] := hM.call0 hN trivial; clear hN
    refine s_move hE rfl rfl ?_; clear hE a; intro a hE
    refine s_extract hE rfl rfl rfl ?_; clear hE a; intro a hE
    refine s_extract hE rfl rfl rfl ?_; clear hE a; intro a hE
    refine s_alloc [1, 32, 32, 32, 1, 1] hE hM zero67 rfl rfl ?_; clear hE a; intro a b3 w2 hE hM'
    clear hM; have hM := hM'; clear hM'
    refine s_storeSegs 0 6 (vss := [[.int .u64 ((val ((bs.drop 8).take 8) : Nat) : Int)], bv ((bs.drop 16).take 32), bv ((bs.drop 48).take 32), bv ((bs.drop 80).take 32), [.int .i64 ((val ((bs.drop 112).take 4) : Nat) : Int)], [.int .i64 ((val ((bs.drop 116).take 4) : Nat) : Int)]]) hE rfl rfl hM rfl sz67 (by have hl_s1 : ((bs.drop 16).take 32).length = 32 := (by simp [*]); have hl_s2 : ((bs.drop 48).take 32).length = 32 := (by simp [*]); have hl_s3 : ((bs.drop 80).take 32).length = 32 := (by simp [*]);  simp only [List.map_cons, List.map_nil, bv_length, List.length_cons, List.length_nil, List.take_succ_cons, List.take_zero, List.drop_zero, List.drop_succ_cons, hl_s1, hl_s2, hl_s3]) (by decide) rfl (one_fl ⟨one1 rfl, bv_one _, bv_one _, bv_one _, one1 rfl, one1 rfl, trivial⟩) rfl (by intro X h; cases h) ?_; intro w3 hM'; clear hM; have hM := hM'; clear hM'
    simp only [List.take_zero, List.take_succ_cons, List.drop_zero, List.drop_succ_cons, List.take_nil, List.drop_nil, List.nil_append, List.append_nil, List.cons_append] at hM
    refine s_assign hE rfl rfl ?_; clear hE a; intro a hE
    refine q_nil ?_
    replace hE : Env a 61 [(0, _), (2, _), (3, _), (4, _), (13, _)] := hE.sel [0, 2, 3, 4, 13] rfl
    refine hK4 _ _ ?_
    refine wp_seq_k (fun K5 hK5 => ?_)
    refine wp_seq_k (fun K6 hK6 => ?_)
    refine wp_plain [true, true] rfl rfl ?_
    refine s_move hE rfl rfl ?_; clear hE a; intro a hE
    refine s_bin hE rfl rfl bin_eql rfl ?_; clear hE a; intro a hE
    replace hE := hE.cast 21 rfl (show _ = Value.bool true from (congrArg Value.bool (by decide)))
    refine q_nil ?_
    replace hE : Env a 61 [(0, _), (2, _), (3, _), (13, _), (21, _)] := hE.sel [0, 2, 3, 13, 21] rfl
    refine hK6 _ _ ?_
    refine wp_cond_true (hE.eval rfl) ?_
    refine wp_seq_k (fun K7 hK7 => ?_)
    refine wp_plain [true, false, true, true, true, true, true] rfl rfl ?_
    refine s_loadN hE rfl (hM.get 0 rfl) row67 rfl (by intro X h; cases h) rfl ?_; clear hE a; intro a hE
    replace hE := hE.cast 23 rfl (show _ = Value.agg ([[.int .u64 ((val ((bs.drop 8).take 8) : Nat) : Int)], bv ((bs.drop 16).take 32), bv ((bs.drop 48).take 32), bv ((bs.drop 80).take 32), [.int .i64 ((val ((bs.drop 112).take 4) : Nat) : Int)], [.int .i64 ((val ((bs.drop 116).take 4) : Nat) : Int)]] : List (List Value)).flatten.toArray from (by first | rfl | simp))
    refine s_call hE rfl Try.call26 (put_a (val ((bs.drop 8).take 8)) ((bs.drop 16).take 32) ((bs.drop 48).take 32) ((bs.drop 80).take 32) ((val ((bs.drop 112).take 4) : Nat) : Int) ((val ((bs.drop 116).take 4) : Nat) : Int) _ (by simp [*]) (by simp [*]) (by simp [*])) rfl ?_
    rintro e w4 ⟨v24, rfl, hN⟩
    refine ⟨_, rfl, trivial, ?_⟩; clear hE a; intro a hE
    replace hM : Mem _ _ w4 [_, _, _] := hM.call0 hN ⟨rfl, trivial⟩; clear hN
    refine s_move hE rfl rfl ?_; clear hE a; intro a hE
    refine s_extract hE rfl rfl rfl ?_; clear hE a; intro a hE
    refine s_extract hE rfl rfl rfl ?_; clear hE a; intro a hE
    refine s_assign hE rfl rfl ?_; clear hE a; intro a hE
    refine s_assign hE rfl rfl ?_; clear hE a; intro a hE
    refine q_nil ?_
    replace hE : Env a 61 [(0, _), (2, _), (3, _), (5, _), (6, _), (13, _), (21, _)] := hE.sel [0, 2, 3, 5, 6, 13, 21] rfl
    refine hK7 _ _ ?_
    refine wp_seq_k (fun K8 hK8 => ?_)
    refine wp_plain [true, true, true, true, true, true, true, true, true] rfl rfl ?_
    refine s_move hE rfl rfl ?_; clear hE a; intro a hE
    refine s_bin hE rfl rfl bin_neq rfl ?_; clear hE a; intro a hE
    refine s_move hE rfl rfl ?_; clear hE a; intro a hE
    replace hE := hE.cast 29 rfl (show _ = Value.bool false from (congrArg Value.bool (by first | rfl | (rw [hae]; rfl))))
    refine g_yes hE rfl rfl ?_
    refine s_move hE rfl rfl ?_; clear hE a; intro a hE
    refine g_yes hE rfl rfl ?_
    obtain ⟨cs31, hs31⟩ := own_rd (hM.get 0 rfl)
    refine s_toStr hE rfl Try.underlying55 Try.underlying5 Try.underlying9 hs31 (by intro X h; cases h) rfl ?_; clear hE a; intro a hE
    refine g_yes hE rfl rfl ?_
    refine s_move hE rfl rfl ?_; clear hE a; intro a hE
    refine g_yes hE rfl rfl ?_
    refine s_toStr hE rfl Try.underlying55 Try.underlying5 Try.underlying9 (hM.get 2 rfl) (by intro X h; cases h) rfl ?_; clear hE a; intro a hE
    refine g_yes hE rfl rfl ?_
    refine s_bin hE rfl rfl bins_str.2 rfl ?_; clear hE a; intro a hE
    refine s_pickf hE rfl rfl rfl ?_; clear hE a; intro a hE
    refine q_nil ?_
    replace hE : Env a 61 [(0, _), (2, _), (3, _), (13, _), (21, _), (35, _)] := hE.sel [0, 2, 3, 13, 21, 35] rfl
    refine hK8 _ _ ?_
    replace hE := hE.cast 35 rfl (show _ = Value.bool false from (congrArg Value.bool (by first | rfl | (rw [hag]; simp))))
    refine wp_cond_false (hE.eval rfl) ?_
    refine wp_skip ?_
    refine hK5 _ _ ?_
    refine wp_seq_k (fun K9 hK9 => ?_)
    refine wp_plain [true, true, true, true, false, true, true, true, true, true] rfl rfl ?_
    refine s_move hE rfl rfl ?_; clear hE a; intro a hE
    refine s_move hE rfl rfl ?_; clear hE a; intro a hE
    refine s_len hE rfl Try.underlying55 (rd_slice (hM.get 2 rfl)) rfl ?_; clear hE a; intro a hE
    refine s_bin hE rfl rfl (bin_quo_nat (m := bs.length) (s := 69) (by decide) (wrap_i64 (by omega) (by omega))) rfl ?_; clear hE a; intro a hE
    refine s_call hE rfl Try.call34 (pget_a _ bs _ ((bs.length / 69 : Nat) : Int) _ (hM.get 2 rfl)) rfl ?_
    rintro e w5 ⟨v41, rfl, hN⟩
    refine ⟨_, rfl, trivial, ?_⟩; clear hE a; intro a hE
    replace hM : Mem _ _ w5 [_, _, _, _] := hM.call0 hN ⟨rfl, trivial⟩; clear hN
    refine s_move hE rfl rfl ?_; clear hE a; intro a hE
    refine s_extract hE rfl rfl rfl ?_; clear hE a; intro a hE
    refine s_extract hE rfl rfl rfl ?_; clear hE a; intro a hE
    refine s_assign hE rfl rfl ?_; clear hE a; intro a hE
    refine s_assign hE rfl rfl ?_; clear hE a; intro a hE
    refine q_nil ?_
    replace hE : Env a 61 [(0, _), (2, _), (3, _), (7, _), (8, _), (13, _), (21, _), (35, _)] := hE.sel [0, 2, 3, 7, 8, 13, 21, 35] rfl
    refine hK9 _ _ ?_
    refine wp_seq_k (fun K10 hK10 => ?_)
    refine wp_seq_k (fun K11 hK11 => ?_)
    refine wp_plain [true, true] rfl rfl ?_
    refine s_move hE rfl rfl ?_; clear hE a; intro a hE
    refine s_bin hE rfl rfl bin_eql rfl ?_; clear hE a; intro a hE
    refine q_nil ?_
    replace hE : Env a 61 [(0, _), (2, _), (3, _), (7, _), (13, _), (21, _), (35, _), (45, _)] := hE.sel [0, 2, 3, 7, 13, 21, 35, 45] rfl
    refine hK11 _ _ ?_
    refine hE.split 45 rfl (fun hb45 hE' => ?_) (fun hb45 hE' => ?_)
    · replace hE := hE'; clear hE'
      replace hb45 := of_decide_eq_true hb45
      replace hb45 : (gwE bs ((bs.length / 69 : Nat) : Int)) = 0 := by omega
      obtain ⟨hpw, hpf⟩ := gw_back hb45
      refine wp_cond_true (hE.eval rfl) ?_
      refine wp_seq_k (fun K12 hK12 => ?_)
      refine wp_plain [true, false, true, true, true, true, true] rfl rfl ?_
      refine s_move hE rfl rfl ?_; clear hE a; intro a hE
      obtain ⟨cq1, hq1⟩ := own_rd (hM.get 0 rfl)
      refine s_call hE rfl Try.call31 (putwrites_c _ (gwL bs ((bs.length / 69 : Nat) : Int)) _ _ hq1 gwL_ok) rfl ?_
      rintro e w6 ⟨v48_0, rfl, hN⟩
      refine ⟨_, rfl, trivial, ?_⟩; clear hE a; intro a hE
      replace hM : Mem _ _ w6 [_, _, _, _, _] := hM.call0 hN ⟨rfl, trivial⟩; clear hN
      refine s_move hE rfl rfl ?_; clear hE a; intro a hE
      refine s_extract hE rfl rfl rfl ?_; clear hE a; intro a hE
      refine s_extract hE rfl rfl rfl ?_; clear hE a; intro a hE
      refine s_assign hE rfl rfl ?_; clear hE a; intro a hE
      refine s_assign hE rfl rfl ?_; clear hE a; intro a hE
      refine q_nil ?_
      replace hE : Env a 61 [(0, _), (2, _), (3, _), (9, _), (10, _), (13, _), (21, _), (35, _), (45, _)] := hE.sel [0, 2, 3, 9, 10, 13, 21, 35, 45] rfl
      refine hK12 _ _ ?_
      refine wp_seq_k (fun K13 hK13 => ?_)
      refine wp_plain [true, true, true, true, true, true, true, true, true] rfl rfl ?_
      refine s_move hE rfl rfl ?_; clear hE a; intro a hE
      refine s_bin hE rfl rfl bin_neq rfl ?_; clear hE a; intro a hE
      refine s_move hE rfl rfl ?_; clear hE a; intro a hE
      replace hE := hE.cast 53 rfl (show _ = Value.bool false from (congrArg Value.bool (by first | rfl | (rw [hpf]; rfl))))
      refine g_yes hE rfl rfl ?_
      refine s_move hE rfl rfl ?_; clear hE a; intro a hE
      refine g_yes hE rfl rfl ?_
      obtain ⟨cs55, hs55⟩ := own_rd (hM.get 0 rfl)
      refine s_toStr hE rfl Try.underlying55 Try.underlying5 Try.underlying9 hs55 (by intro X h; cases h) rfl ?_; clear hE a; intro a hE
      refine g_yes hE rfl rfl ?_
      refine s_move hE rfl rfl ?_; clear hE a; intro a hE
      refine g_yes hE rfl rfl ?_
      refine s_toStr hE rfl Try.underlying55 Try.underlying5 Try.underlying9 (hM.get 4 rfl) (by intro X h; cases h) rfl ?_; clear hE a; intro a hE
      refine g_yes hE rfl rfl ?_
      refine s_bin hE rfl rfl bins_str.2 rfl ?_; clear hE a; intro a hE
      refine s_pickf hE rfl rfl rfl ?_; clear hE a; intro a hE
      refine q_nil ?_
      replace hE : Env a 61 [(0, _), (2, _), (3, _), (13, _), (21, _), (35, _), (45, _), (59, _)] := hE.sel [0, 2, 3, 13, 21, 35, 45, 59] rfl
      refine hK13 _ _ ?_
      replace hE := hE.cast 59 rfl (show _ = Value.bool false from (congrArg Value.bool (by first | rfl | (rw [hpw]; simp))))
      refine wp_cond_false (hE.eval rfl) ?_
      refine wp_skip ?_
      refine hK10 _ _ ?_
      refine wp_seq_k (fun K14 hK14 => ?_)
      refine wp_plain [false, true] rfl rfl ?_
      refine s_call hE rfl Try.call30 (awake21_c  _ ) rfl ?_
      rintro e w7 ⟨rfl, hN⟩
      refine ⟨_, rfl, trivial, ?_⟩; clear hE a; intro a hE
      replace hM : Mem _ _ w7 [_, _, _, _, _] := hM.call0 hN trivial; clear hN
      refine s_assign hE rfl rfl ?_; clear hE a; intro a hE
      refine q_nil ?_
      replace hE : Env a 61 [(0, _), (2, _), (3, _), (13, _), (21, _), (35, _), (45, _), (59, _)] := hE.sel [0, 2, 3, 13, 21, 35, 45, 59] rfl
      refine hK14 _ _ ?_
      refine wp_ret ?_
      refine f_ret1 hE rfl rfl ?_
      exact ⟨(by first | rfl | (simp; done)), hM.pick [] rfl⟩
    · replace hE := hE'; clear hE'
      replace hb45 := of_decide_eq_false hb45
      replace hb45 : ¬ ((gwE bs ((bs.length / 69 : Nat) : Int)) = 0) := by omega
      refine wp_cond_false (hE.eval rfl) ?_
      refine wp_skip ?_
      refine hK10 _ _ ?_
      refine wp_seq_k (fun K12 hK12 => ?_)
      refine wp_plain [false, true] rfl rfl ?_
      refine s_call hE rfl Try.call30 (awake21_c  _ ) rfl ?_
      rintro e w6 ⟨rfl, hN⟩
      refine ⟨_, rfl, trivial, ?_⟩; clear hE a; intro a hE
      replace hM : Mem _ _ w6 [_, _, _, _] := hM.call0 hN trivial; clear hN
      refine s_assign hE rfl rfl ?_; clear hE a; intro a hE
      refine q_nil ?_
      replace hE : Env a 61 [(0, _), (2, _), (3, _), (7, _), (13, _), (21, _), (35, _), (45, _)] := hE.sel [0, 2, 3, 7, 13, 21, 35, 45] rfl
      refine hK12 _ _ ?_
      refine wp_ret ?_
      refine f_ret1 hE rfl rfl ?_
      exact ⟨(by first | rfl | (simp; done)), hM.pick [] rfl⟩
theorem recordOnce_no (v : Value) (bs : List UInt8) (c : Nat) (w : World) (hr_bs : (rd v 1 bs.length c (bv bs)).holds w) (hg : getOk bs = false) : Calls Try.prog 14 #[v] w fun e w' => e = .returned (.bool true) ∧ Mem w [] w' [] := by
  have hM : Mem w [] w [rd v 1 bs.length c (bv bs)] := Mem.startR w (fun g hg => by
    simp only [List.mem_cons, List.not_mem_nil, or_false] at hg
    rcases hg with rfl
    · exact ⟨hr_bs, rfl⟩)
  refine f_enter 61 Try.func14 rfl rfl rfl ?_
  intro a hE
  replace hE : Env a 61 [(0, _)] := hE
  refine wp_seq_k (fun K1 hK1 => ?_)
  refine wp_plain [true] rfl rfl ?_
  refine s_assign hE rfl rfl ?_; clear hE a; intro a hE
  refine q_nil ?_
  refine hK1 _ _ ?_
  refine wp_seq_k (fun K2 hK2 => ?_)
  refine wp_seq_k (fun K3 hK3 => ?_)
  refine wp_plain [true, true, true] rfl rfl ?_
  refine s_move hE rfl rfl ?_; clear hE a; intro a hE
  refine s_len hE rfl Try.underlying55 (rd_slice (hM.get 0 rfl)) rfl ?_; clear hE a; intro a hE
  refine s_bin hE rfl rfl bin_gtr rfl ?_; clear hE a; intro a hE
  refine q_nil ?_
  replace hE : Env a 61 [(0, _), (2, _), (13, _)] := hE.sel [0, 2, 13] rfl
  refine hK3 _ _ ?_
  refine hE.split 13 rfl (fun hb13 hE' => ?_) (fun hb13 hE' => ?_)
  · replace hE := hE'; clear hE'
    replace hb13 := of_decide_eq_true hb13
    replace hb13 : 5000 < bs.length := by omega
    refine wp_cond_true (hE.eval rfl) ?_
    refine wp_seq_k (fun K4 hK4 => ?_)
    refine wp_plain [false, true] rfl rfl ?_
    refine s_call hE rfl Try.call30 (awake21_c  _ ) rfl ?_
    rintro e w1 ⟨rfl, hN⟩
    refine ⟨_, rfl, trivial, ?_⟩; clear hE a; intro a hE
    replace hM : Mem _ _ w1 [_] := hM.call0 hN trivial; clear hN
    refine s_assign hE rfl rfl ?_; clear hE a; intro a hE
    refine q_nil ?_
    replace hE : Env a 61 [(0, _), (2, _), (13, _)] := hE.sel [0, 2, 13] rfl
    refine hK4 _ _ ?_
    refine wp_ret ?_
    refine q_then_r ?_
    refine f_ret1 hE rfl rfl ?_
    exact ⟨(by first | rfl | (simp; done)), hM.pick [] rfl⟩
  · replace hE := hE'; clear hE'
    replace hb13 := of_decide_eq_false hb13
    replace hb13 : ¬ (5000 < bs.length) := by omega
    refine wp_cond_false (hE.eval rfl) ?_
    refine wp_skip ?_
    refine hK2 _ _ ?_
    refine wp_seq_k (fun K4 hK4 => ?_)
    refine wp_plain [true, false, true, true, true, false, false, true] rfl rfl ?_
    refine s_move hE rfl rfl ?_; clear hE a; intro a hE
    refine s_call hE rfl Try.call28 (get_no _ bs _ _ (hM.get 0 rfl) hg) rfl ?_
    rintro e w1 ⟨rfl, hN⟩
    refine ⟨_, rfl, trivial, ?_⟩; clear hE a; intro a hE
    replace hM : Mem _ _ w1 [_] := hM.call0 hN trivial; clear hN
    refine s_move hE rfl rfl ?_; clear hE a; intro a hE
    refine s_extract hE rfl rfl rfl ?_; clear hE a; intro a hE
    refine s_extract hE rfl rfl rfl ?_; clear hE a; intro a hE
    refine s_alloc [1, 32, 32, 32, 1, 1] hE hM zero67 rfl rfl ?_; clear hE a; intro a b3 w2 hE hM'
    clear hM; have hM := hM'; clear hM'
    refine s_storeSegs 0 6 (vss := [[.int .u64 0], bv (List.replicate 32 (0 : UInt8)), bv (List.replicate 32 (0 : UInt8)), bv (List.replicate 32 (0 : UInt8)), [.int .i64 0], [.int .i64 0]]) hE rfl rfl hM rfl sz67 (by have hl_s1 : (List.replicate 32 (0 : UInt8)).length = 32 := (by first | (simp; done) | (simp [*]; done) | (simp; omega)); have hl_s2 : (List.replicate 32 (0 : UInt8)).length = 32 := (by first | (simp; done) | (simp [*]; done) | (simp; omega)); have hl_s3 : (List.replicate 32 (0 : UInt8)).length = 32 := (by first | (simp; done) | (simp [*]; done) | (simp; omega));  simp only [List.map_cons, List.map_nil, bv_length, List.length_cons, List.length_nil, List.take_succ_cons, List.take_zero, List.drop_zero, List.drop_succ_cons, hl_s1, hl_s2, hl_s3]) (by decide) rfl (one_fl ⟨one1 rfl, bv_one _, bv_one _, bv_one _, one1 rfl, one1 rfl, trivial⟩) rfl (by intro X h; cases h) ?_; intro w3 hM'; clear hM; have hM := hM'; clear hM'
    simp only [List.take_zero, List.take_succ_cons, List.drop_zero, List.drop_succ_cons, List.take_nil, List.drop_nil, List.nil_append, List.append_nil, List.cons_append] at hM
    refine s_assign hE rfl rfl ?_; clear hE a; intro a hE
    refine q_nil ?_
    replace hE : Env a 61 [(0, _), (2, _), (3, _), (4, _), (13, _)] := hE.sel [0, 2, 3, 4, 13] rfl
    refine hK4 _ _ ?_
    refine wp_seq_k (fun K5 hK5 => ?_)
    refine wp_seq_k (fun K6 hK6 => ?_)
    refine wp_plain [true, true] rfl rfl ?_
    refine s_move hE rfl rfl ?_; clear hE a; intro a hE
    refine s_bin hE rfl rfl bin_eql rfl ?_; clear hE a; intro a hE
    replace hE := hE.cast 21 rfl (show _ = Value.bool false from (congrArg Value.bool (by decide)))
    refine q_nil ?_
    replace hE : Env a 61 [(0, _), (2, _), (3, _), (13, _), (21, _)] := hE.sel [0, 2, 3, 13, 21] rfl
    refine hK6 _ _ ?_
    refine wp_cond_false (hE.eval rfl) ?_
    refine wp_skip ?_
    refine hK5 _ _ ?_
    refine wp_seq_k (fun K7 hK7 => ?_)
    refine wp_plain [true, true, true, true, false, true, true, true, true, true] rfl rfl ?_
    refine s_move hE rfl rfl ?_; clear hE a; intro a hE
    refine s_move hE rfl rfl ?_; clear hE a; intro a hE
    refine s_len hE rfl Try.underlying55 (rd_slice (hM.get 1 rfl)) rfl ?_; clear hE a; intro a hE
    refine s_bin hE rfl rfl (bin_quo_nat (m := bs.length) (s := 69) (by decide) (wrap_i64 (by omega) (by omega))) rfl ?_; clear hE a; intro a hE
    refine s_call hE rfl Try.call34 (pget_a _ bs _ ((bs.length / 69 : Nat) : Int) _ (hM.get 1 rfl)) rfl ?_
    rintro e w4 ⟨v41, rfl, hN⟩
    refine ⟨_, rfl, trivial, ?_⟩; clear hE a; intro a hE
    replace hM : Mem _ _ w4 [_, _, _] := hM.call0 hN ⟨rfl, trivial⟩; clear hN
    refine s_move hE rfl rfl ?_; clear hE a; intro a hE
    refine s_extract hE rfl rfl rfl ?_; clear hE a; intro a hE
    refine s_extract hE rfl rfl rfl ?_; clear hE a; intro a hE
    refine s_assign hE rfl rfl ?_; clear hE a; intro a hE
    refine s_assign hE rfl rfl ?_; clear hE a; intro a hE
    refine q_nil ?_
    replace hE : Env a 61 [(0, _), (2, _), (3, _), (7, _), (8, _), (13, _), (21, _)] := hE.sel [0, 2, 3, 7, 8, 13, 21] rfl
    refine hK7 _ _ ?_
    refine wp_seq_k (fun K8 hK8 => ?_)
    refine wp_seq_k (fun K9 hK9 => ?_)
    refine wp_plain [true, true] rfl rfl ?_
    refine s_move hE rfl rfl ?_; clear hE a; intro a hE
    refine s_bin hE rfl rfl bin_eql rfl ?_; clear hE a; intro a hE
    refine q_nil ?_
    replace hE : Env a 61 [(0, _), (2, _), (3, _), (7, _), (13, _), (21, _), (45, _)] := hE.sel [0, 2, 3, 7, 13, 21, 45] rfl
    refine hK9 _ _ ?_
    refine hE.split 45 rfl (fun hb45 hE' => ?_) (fun hb45 hE' => ?_)
    · replace hE := hE'; clear hE'
      replace hb45 := of_decide_eq_true hb45
      replace hb45 : (gwE bs ((bs.length / 69 : Nat) : Int)) = 0 := by omega
      obtain ⟨hpw, hpf⟩ := gw_back hb45
      refine wp_cond_true (hE.eval rfl) ?_
      refine wp_seq_k (fun K10 hK10 => ?_)
      refine wp_plain [true, false, true, true, true, true, true] rfl rfl ?_
      refine s_move hE rfl rfl ?_; clear hE a; intro a hE
      obtain ⟨cq1, hq1⟩ := own_rd (hM.get 0 rfl)
      refine s_call hE rfl Try.call31 (putwrites_c _ (gwL bs ((bs.length / 69 : Nat) : Int)) _ _ hq1 gwL_ok) rfl ?_
      rintro e w5 ⟨v48_0, rfl, hN⟩
      refine ⟨_, rfl, trivial, ?_⟩; clear hE a; intro a hE
      replace hM : Mem _ _ w5 [_, _, _, _] := hM.call0 hN ⟨rfl, trivial⟩; clear hN
      refine s_move hE rfl rfl ?_; clear hE a; intro a hE
      refine s_extract hE rfl rfl rfl ?_; clear hE a; intro a hE
      refine s_extract hE rfl rfl rfl ?_; clear hE a; intro a hE
      refine s_assign hE rfl rfl ?_; clear hE a; intro a hE
      refine s_assign hE rfl rfl ?_; clear hE a; intro a hE
      refine q_nil ?_
      replace hE : Env a 61 [(0, _), (2, _), (3, _), (9, _), (10, _), (13, _), (21, _), (45, _)] := hE.sel [0, 2, 3, 9, 10, 13, 21, 45] rfl
      refine hK10 _ _ ?_
      refine wp_seq_k (fun K11 hK11 => ?_)
      refine wp_plain [true, true, true, true, true, true, true, true, true] rfl rfl ?_
      refine s_move hE rfl rfl ?_; clear hE a; intro a hE
      refine s_bin hE rfl rfl bin_neq rfl ?_; clear hE a; intro a hE
      refine s_move hE rfl rfl ?_; clear hE a; intro a hE
      replace hE := hE.cast 53 rfl (show _ = Value.bool false from (congrArg Value.bool (by first | rfl | (rw [hpf]; rfl))))
      refine g_yes hE rfl rfl ?_
      refine s_move hE rfl rfl ?_; clear hE a; intro a hE
      refine g_yes hE rfl rfl ?_
      obtain ⟨cs55, hs55⟩ := own_rd (hM.get 0 rfl)
      refine s_toStr hE rfl Try.underlying55 Try.underlying5 Try.underlying9 hs55 (by intro X h; cases h) rfl ?_; clear hE a; intro a hE
      refine g_yes hE rfl rfl ?_
      refine s_move hE rfl rfl ?_; clear hE a; intro a hE
      refine g_yes hE rfl rfl ?_
      refine s_toStr hE rfl Try.underlying55 Try.underlying5 Try.underlying9 (hM.get 3 rfl) (by intro X h; cases h) rfl ?_; clear hE a; intro a hE
      refine g_yes hE rfl rfl ?_
      refine s_bin hE rfl rfl bins_str.2 rfl ?_; clear hE a; intro a hE
      refine s_pickf hE rfl rfl rfl ?_; clear hE a; intro a hE
      refine q_nil ?_
      replace hE : Env a 61 [(0, _), (2, _), (3, _), (13, _), (21, _), (45, _), (59, _)] := hE.sel [0, 2, 3, 13, 21, 45, 59] rfl
      refine hK11 _ _ ?_
      replace hE := hE.cast 59 rfl (show _ = Value.bool false from (congrArg Value.bool (by first | rfl | (rw [hpw]; simp))))
      refine wp_cond_false (hE.eval rfl) ?_
      refine wp_skip ?_
      refine hK8 _ _ ?_
      refine wp_seq_k (fun K12 hK12 => ?_)
      refine wp_plain [false, true] rfl rfl ?_
      refine s_call hE rfl Try.call30 (awake21_c  _ ) rfl ?_
      rintro e w6 ⟨rfl, hN⟩
      refine ⟨_, rfl, trivial, ?_⟩; clear hE a; intro a hE
      replace hM : Mem _ _ w6 [_, _, _, _] := hM.call0 hN trivial; clear hN
      refine s_assign hE rfl rfl ?_; clear hE a; intro a hE
      refine q_nil ?_
      replace hE : Env a 61 [(0, _), (2, _), (3, _), (13, _), (21, _), (45, _), (59, _)] := hE.sel [0, 2, 3, 13, 21, 45, 59] rfl
      refine hK12 _ _ ?_
      refine wp_ret ?_
      refine f_ret1 hE rfl rfl ?_
      exact ⟨(by first | rfl | (simp; done)), hM.pick [] rfl⟩
    · replace hE := hE'; clear hE'
      replace hb45 := of_decide_eq_false hb45
      replace hb45 : ¬ ((gwE bs ((bs.length / 69 : Nat) : Int)) = 0) := by omega
      refine wp_cond_false (hE.eval rfl) ?_
      refine wp_skip ?_
      refine hK8 _ _ ?_
      refine wp_seq_k (fun K10 hK10 => ?_)
      refine wp_plain [false, true] rfl rfl ?_
      refine s_call hE rfl Try.call30 (awake21_c  _ ) rfl ?_
      rintro e w5 ⟨rfl, hN⟩
      refine ⟨_, rfl, trivial, ?_⟩; clear hE a; intro a hE
      replace hM : Mem _ _ w5 [_, _, _] := hM.call0 hN trivial; clear hN
      refine s_assign hE rfl rfl ?_; clear hE a; intro a hE
      refine q_nil ?_
      replace hE : Env a 61 [(0, _), (2, _), (3, _), (7, _), (13, _), (21, _), (45, _)] := hE.sel [0, 2, 3, 7, 13, 21, 45] rfl
      refine hK10 _ _ ?_
      refine wp_ret ?_
      refine f_ret1 hE rfl rfl ?_
      exact ⟨(by first | rfl | (simp; done)), hM.pick [] rfl⟩
theorem recordOnce_c (v : Value) (bs : List UInt8) (c : Nat) (w : World) (hr : (rd v 1 bs.length c (bv bs)).holds w) : Calls Try.prog 14 #[v] w fun e w' => e = .returned (.bool true) ∧ Mem w [] w' [] := by
  cases hg : getOk bs
  · exact recordOnce_no v bs c w hr hg
  · exact recordOnce_yes v bs c w hr hg
set_option maxRecDepth 100000 in
theorem recordOnce_lifted (os : Os) (started : os.Started) (H : Type) (enc : TypeId × Value → H) :
    ReturnsInHanded {} Try.checked os 14 .any (Rows.recordOnceSpec.pre6 enc Try.prog Try.f14 Rows.recordOnceRow.domain false) (Rows.recordOnceSpec.post enc Try.prog Try.f14 false true false false) := by
  refine law_lifted (C := Try.checked) (fn := Try.f14) (by kernel_rfl) started (by kernel_rfl) Try.func14 rfl (fun ds hl => ?_) rfl Try.underlying4 (by kernel_rfl) (of_decide_eq_true (by kernel_rfl)) (ChangeSpec.witness6 (enc := enc) (C := Try.checked) false ⟨#[], #[.slice none 0 0], []⟩ 8 (by kernel_rfl) (by kernel_rfl) (by kernel_rfl) (by kernel_rfl)) ?_
  · rw [Try.params14] at hl
    match ds, hl with
    | [_], _ => rfl
  · intro W base args ds ps hval hA hw
    rw [Try.params14] at hA hval hw
    obtain ⟨v0, vs0, d0, ds0, p0, q0, hargs, rfl, rfl, h0, r0⟩ := trodAll_cons hA
    obtain ⟨rfl, rfl, rfl⟩ := trodAll_nil r0
    obtain rfl : args = #[v0] := by cases args; simp_all
    obtain ⟨bs0, c0, hr0, hb0⟩ := arg_bytes Try.underlying55 Try.underlying5 (by kernel_rfl) (by kernel_rfl) (hval 0 55 v0 rfl rfl) h0 (fun m hm => hw m (by simp only [DataW.weightsEach, List.mem_append]; exact .inl hm))
    exact recordOnce_c v0 bs0 c0 W hr0

/-- The statement. -/
theorem recordOnce_holds : Rows.RecordOnceSaid :=
  OpenClaim.holds_of_wide 14 Try.f14 rfl rfl rfl rfl rfl rfl rfl ⟨rfl, rfl, rfl, rfl, rfl⟩ rfl rfl rfl rfl rfl (by kernel_rfl) Try.func14 (by kernel_rfl)
    (of_decide_eq_true (by kernel_rfl)) (by unfold Func.isWrapper; first | (rw [if_pos (by decide +kernel)]; kernel_rfl) | (rw [if_neg (by decide +kernel)]; exact ⟨rfl, rfl⟩))
    (fun os started H enc _ => recordOnce_lifted os started H enc)
#print axioms recordOnce_holds
end Go.Proofs.Ytlieojojahhmmaa
