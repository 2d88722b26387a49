/- Walks of functions of the given program that the claim reaches. -/
import Derived.Test.YtacebdngbalkmaaDoorLw
set_option linter.unusedSimpArgs false
set_option linter.unusedVariables false
namespace Go.Proofs.YtacebdngbalkmaaDoor
open Go Go.Kx
theorem power_c (h : Nat) (w : World) (hh : h ≤ 12) : Calls Tryd.prog 36 #[.int .i64 (h : Int)] w fun e w' => e = .returned (.int .i64 ((2 ^ h : Nat) : Int)) ∧ Mem w [] w' [] := by
  have hM := Mem.start0 w
  refine f_enter 13 Tryd.func36 rfl rfl rfl ?_
  intro a hE
  replace hE : Env a 13 [(0, _)] := hE
  refine wp_seq_k (fun K1 hK1 => ?_)
  refine wp_plain [true] rfl rfl ?_
  refine s_assign hE rfl rfl ?_; clear hE a; intro a hE
  refine q_nil ?_
  refine hK1 _ _ ?_
  refine wp_seq_k (fun K2 hK2 => ?_)
  refine wp_plain [true] rfl rfl ?_
  refine s_assign hE rfl rfl ?_; clear hE a; intro a hE
  refine q_nil ?_
  refine hK2 _ _ ?_
  refine wp_seq_k (fun K3 hK3 => ?_)
  refine wp_seq_k (fun K4 hK4 => ?_)
  refine wp_plain [true] rfl rfl ?_
  refine s_assign hE rfl rfl ?_; clear hE a; intro a hE
  refine q_nil ?_
  refine hK4 _ _ ?_
  refine wp_block ?_
  replace hE := hE.cast 3 rfl (show _ = Value.int .i64 ((2 ^ 0 : Nat) : Int) from (by first | rfl | simp))
  refine c_loop (fun (i : Nat) a w' => i ≤ h ∧ Env a 13 [(0, .int .i64 ((h : Nat) : Int)), (2, .int .i64 0), (3, .int .i64 ((2 ^ i : Nat) : Int)), (4, .int .i64 ((i : Nat) : Int))] ∧ Mem w [] w' []) (fun i => h - i) 0 ⟨Nat.zero_le _, hE.sel [0, 2, 3, 4] rfl, hM⟩ ?_
  clear hE hM a; rintro i a w1 ⟨hi, hE, hM⟩
  refine wp_seq_k (fun K5 hK5 => ?_)
  refine wp_seq_k (fun K6 hK6 => ?_)
  refine wp_plain [true, true, true] rfl rfl ?_
  refine s_move hE rfl rfl ?_; clear hE a; intro a hE
  refine s_move hE rfl rfl ?_; clear hE a; intro a hE
  refine s_bin hE rfl rfl bin_lss rfl ?_; clear hE a; intro a hE
  refine q_nil ?_
  replace hE : Env a 13 [(0, _), (2, _), (3, _), (4, _), (7, _)] := hE.sel [0, 2, 3, 4, 7] rfl
  refine hK6 _ _ ?_
  refine hE.split 7 rfl (fun hb7 hE' => ?_) (fun hb7 hE' => ?_)
  · replace hE := hE'; clear hE'
    replace hb7 := of_decide_eq_true hb7
    replace hb7 : i < h := by omega
    replace hb7 : i < h := by omega
    refine wp_cond_true (hE.eval rfl) ?_
    refine wp_skip ?_
    refine hK5 _ _ ?_
    refine wp_seq_k (fun K7 hK7 => ?_)
    refine wp_block ?_
    refine wp_plain [true, true, true] rfl rfl ?_
    refine s_move hE rfl rfl ?_; clear hE a; intro a hE
    refine s_bin hE rfl rfl (bin_twice (i := i) (by omega)) rfl ?_; clear hE a; intro a hE
    refine s_assign hE rfl rfl ?_; clear hE a; intro a hE
    refine q_nil ?_
    replace hE : Env a 13 [(0, _), (2, _), (3, _), (4, _), (7, _)] := hE.sel [0, 2, 3, 4, 7] rfl
    refine q_block_n ?_
    refine hK7 _ _ ?_
    refine wp_plain [true, true, true] rfl rfl ?_
    refine s_move hE rfl rfl ?_; clear hE a; intro a hE
    refine s_bin hE rfl rfl (show Bin _ _ _ _ _ (.int .i64 ((i + 1 : Nat) : Int)) from bin_add (by rw [wrap_i64 (by omega) (by omega)]; omega)) rfl ?_; clear hE a; intro a hE
    refine s_assign hE rfl rfl ?_; clear hE a; intro a hE
    refine q_nil ?_
    replace hE : Env a 13 [(0, _), (2, _), (3, _), (4, _), (7, _)] := hE.sel [0, 2, 3, 4, 7] rfl
    replace hE := hE.cast 3 rfl (show _ = Value.int .i64 ((2 ^ (i + 1) : Nat) : Int) from (congrArg _ (by omega)))
    replace hE := hE.cast 4 rfl (show _ = Value.int .i64 (((i + 1) : Nat) : Int) from (congrArg _ (by omega)))
    replace hM : Mem _ _ w1 [] := hM.pick [] rfl
    exact ⟨i + 1, ⟨by omega, hE.sel [0, 2, 3, 4] rfl, hM⟩, by omega⟩
  · replace hE := hE'; clear hE'
    replace hb7 := of_decide_eq_false hb7
    replace hb7 : ¬ (i < h) := by omega
    obtain rfl : h = i := by omega
    refine wp_cond_false (hE.eval rfl) ?_
    refine wp_exit ?_
    refine q_then_e ?_
    refine q_then_e ?_
    refine q_block_x ?_
    refine hK3 _ _ ?_
    refine wp_seq_k (fun K7 hK7 => ?_)
    refine wp_plain [true, true] rfl rfl ?_
    refine s_move hE rfl rfl ?_; clear hE a; intro a hE
    refine s_assign hE rfl rfl ?_; clear hE a; intro a hE
    refine q_nil ?_
    replace hE : Env a 13 [(0, _), (2, _), (3, _), (4, _), (7, _)] := hE.sel [0, 2, 3, 4, 7] rfl
    refine hK7 _ _ ?_
    refine wp_ret ?_
    refine f_ret1 hE rfl rfl ?_
    exact ⟨(by first | rfl | (simp; done)), hM.pick [] rfl⟩
theorem rpath_c (h : Nat) (q : Nat) (w : World) (hh : 1 ≤ h ∧ h ≤ 12) (hq : q < 2 ^ h) : Calls Tryd.prog 20 #[.int .i64 (h : Int), .int .i64 (q : Int)] w fun e w' => ∃ v'0, e = .returned (v'0) ∧ Mem w [] w' [own v'0 1 ((pathL (2 ^ h + q)).length) ((pathL (2 ^ h + q)).flatMap intC)] := by
  have hpw := two_pow_le hh
  have hpw1 := hpw.1
  have hpw2 := hpw.2
  have hM := Mem.start0 w
  refine f_enter 37 Tryd.func20 rfl rfl rfl ?_
  intro a hE
  replace hE : Env a 37 [(0, _), (1, _)] := hE
  refine wp_seq_k (fun K1 hK1 => ?_)
  refine wp_plain [true] rfl rfl ?_
  refine s_assign hE rfl rfl ?_; clear hE a; intro a hE
  refine q_nil ?_
  refine hK1 _ _ ?_
  refine wp_seq_k (fun K2 hK2 => ?_)
  refine wp_seq_k (fun K3 hK3 => ?_)
  refine wp_plain [true, true, true, true, true, true, true, true, true, true, true, true, true, false, true, true] rfl rfl ?_
  refine s_move hE rfl rfl ?_; clear hE a; intro a hE
  refine s_bin hE rfl rfl bin_lss rfl ?_; clear hE a; intro a hE
  refine s_move hE rfl rfl ?_; clear hE a; intro a hE
  replace hE := hE.cast 9 rfl (show _ = Value.bool false from (congrArg Value.bool (decide_eq_false (by omega))))
  refine g_yes hE rfl rfl ?_
  refine s_move hE rfl rfl ?_; clear hE a; intro a hE
  refine g_yes hE rfl rfl ?_
  refine s_bin hE rfl rfl bin_gtr rfl ?_; clear hE a; intro a hE
  refine s_pickf hE rfl rfl rfl ?_; clear hE a; intro a hE
  refine s_move hE rfl rfl ?_; clear hE a; intro a hE
  replace hE := hE.cast 13 rfl (show _ = Value.bool false from (congrArg Value.bool (decide_eq_false (by omega))))
  refine g_yes hE rfl rfl ?_
  refine s_move hE rfl rfl ?_; clear hE a; intro a hE
  refine g_yes hE rfl rfl ?_
  refine s_bin hE rfl rfl bin_lss rfl ?_; clear hE a; intro a hE
  refine s_pickf hE rfl rfl rfl ?_; clear hE a; intro a hE
  refine s_move hE rfl rfl ?_; clear hE a; intro a hE
  replace hE := hE.cast 17 rfl (show _ = Value.bool false from (congrArg Value.bool (decide_eq_false (by omega))))
  refine g_yes hE rfl rfl ?_
  refine s_move hE rfl rfl ?_; clear hE a; intro a hE
  refine g_yes hE rfl rfl ?_
  refine s_move hE rfl rfl ?_; clear hE a; intro a hE
  refine g_yes hE rfl rfl ?_
  refine s_call hE rfl Tryd.call36 (power_c h _ (by first | omega | assumption | (simp; done) | (simp; omega) | decide)) rfl ?_
  rintro e w1 ⟨rfl, hN⟩
  refine ⟨_, rfl, trivial, ?_⟩; clear hE a; intro a hE
  replace hM : Mem _ _ w1 [] := hM.call0 hN trivial; clear hN
  refine g_yes hE rfl rfl ?_
  refine s_bin hE rfl rfl bin_geq rfl ?_; clear hE a; intro a hE
  refine s_pickf hE rfl rfl rfl ?_; clear hE a; intro a hE
  refine q_nil ?_
  replace hE : Env a 37 [(0, _), (1, _), (4, _), (22, _)] := hE.sel [0, 1, 4, 22] rfl
  refine hK3 _ _ ?_
  replace hE := hE.cast 22 rfl (show _ = Value.bool false from (congrArg Value.bool (decide_eq_false (by omega))))
  refine wp_cond_false (hE.eval rfl) ?_
  refine wp_skip ?_
  refine hK2 _ _ ?_
  refine wp_seq_k (fun K4 hK4 => ?_)
  refine wp_plain [true] rfl rfl ?_
  refine s_assign hE rfl rfl ?_; clear hE a; intro a hE
  refine q_nil ?_
  refine hK4 _ _ ?_
  refine wp_seq_k (fun K5 hK5 => ?_)
  refine wp_seq_k (fun K6 hK6 => ?_)
  refine wp_plain [true, false, true, true, true, true] rfl rfl ?_
  refine s_move hE rfl rfl ?_; clear hE a; intro a hE
  refine s_call hE rfl Tryd.call36 (power_c h _ (by first | omega | assumption | (simp; done) | (simp; omega) | decide)) rfl ?_
  rintro e w2 ⟨rfl, hN⟩
  refine ⟨_, rfl, trivial, ?_⟩; clear hE a; intro a hE
  replace hM : Mem _ _ w2 [] := hM.call0 hN trivial; clear hN
  refine s_move hE rfl rfl ?_; clear hE a; intro a hE
  refine s_bin hE rfl rfl (show Bin _ _ _ _ _ (.int .i64 (((2 ^ h) + q : Nat) : Int)) from bin_add (by rw [wrap_i64 (by omega) (by omega)]; omega)) rfl ?_; clear hE a; intro a hE
  refine s_bin hE rfl rfl (bin_quo_nat (m := ((2 ^ h) + q)) (s := 2) (by decide) (wrap_i64 (by omega) (by omega))) rfl ?_; clear hE a; intro a hE
  refine s_assign hE rfl rfl ?_; clear hE a; intro a hE
  refine q_nil ?_
  replace hE : Env a 37 [(0, _), (1, _), (4, _), (5, _), (6, _), (22, _)] := hE.sel [0, 1, 4, 5, 6, 22] rfl
  refine hK6 _ _ ?_
  refine wp_block ?_
  replace hM := hM.addNil 1
  replace hM := hM.ownEq (m' := ([] : List Nat).length) (cs' := ([] : List Nat).flatMap intC) rfl rfl
  replace hM := Mem.ownRowsEq (f := intC) (ls := ([] : List Nat)) (ms := (pathL (2 ^ h + q)).take 0) hM rfl
  replace hE := hE.cast 6 rfl (show _ = Value.int .i64 (((2 ^ h + q) / 2 ^ (0 + 1) : Nat) : Int) from rfl)
  refine c_loop (fun (i : Nat) a w' => i ≤ h ∧ ∃ vl5, Env a 37 [(0, .int .i64 ((h : Nat) : Int)), (1, .int .i64 ((q : Nat) : Int)), (4, .slice none 0 0), (5, vl5), (6, .int .i64 (((2 ^ h + q) / 2 ^ (i + 1) : Nat) : Int)), (22, .bool false)] ∧ Mem w [] w' [own vl5 1 (((pathL (2 ^ h + q)).take i).length) (((pathL (2 ^ h + q)).take i).flatMap intC)]) (fun i => h - i) 0 ⟨Nat.zero_le _, _, hE.sel [0, 1, 4, 5, 6, 22] rfl, hM⟩ ?_
  clear hE hM a; rintro i a w3 ⟨hi, vl5, hE, hM⟩
  refine wp_seq_k (fun K7 hK7 => ?_)
  refine wp_seq_k (fun K8 hK8 => ?_)
  refine wp_plain [true, true] rfl rfl ?_
  refine s_move hE rfl rfl ?_; clear hE a; intro a hE
  refine s_bin hE rfl rfl bin_geq rfl ?_; clear hE a; intro a hE
  refine q_nil ?_
  replace hE : Env a 37 [(0, _), (1, _), (4, _), (5, _), (6, _), (22, _), (29, _)] := hE.sel [0, 1, 4, 5, 6, 22, 29] rfl
  refine hK8 _ _ ?_
  refine hE.split 29 rfl (fun hb29 hE' => ?_) (fun hb29 hE' => ?_)
  · replace hE := hE'; clear hE'
    replace hb29 := of_decide_eq_true hb29
    replace hb29 : 1 ≤ ((2 ^ h + q) / 2 ^ (i + 1)) := by omega
    have hi2 : i < h := (path_lt hq).1 (by omega)
    have hdl : (2 ^ h + q) / 2 ^ (i + 1) ≤ 2 ^ h + q := Nat.div_le_self _ _
    have hdz : (0 : Int) ≤ (((2 ^ h + q) / 2 ^ (i + 1) : Nat) : Int) := Int.natCast_nonneg _
    have hone : 1 ≤ (2 ^ h + q) / 2 ^ (i + 1) := (path_lt hq).2 hi2
    refine wp_cond_true (hE.eval rfl) ?_
    refine wp_skip ?_
    refine hK7 _ _ ?_
    refine wp_seq_k (fun K9 hK9 => ?_)
    refine wp_block ?_
    refine wp_plain [true, true, false, false, true] rfl rfl ?_
    refine s_move hE rfl rfl ?_; clear hE a; intro a hE
    refine s_move hE rfl rfl ?_; clear hE a; intro a hE
    refine s_buildSlice (xs := [.tmp 33]) ([.int .i64 (((2 ^ h + q) / 2 ^ (i + 1) : Nat) : Int)]) hE hM sl35 rfl rfl rfl (by intro v hv; simp only [List.mem_cons, List.not_mem_nil, or_false] at hv; rcases hv with rfl <;> rfl) rfl rfl rfl rfl ?_; clear hE a; intro a v34 w4 hE hM'
    clear hM; have hM := hM'; clear hM'
    replace hM := hM.ownEq (m' := ([(2 ^ h + q) / 2 ^ (i + 1)] : List Nat).length) (cs' := ([(2 ^ h + q) / 2 ^ (i + 1)] : List Nat).flatMap intC) rfl rfl
    replace hM : Mem _ _ w4 [_, _] := hM.pick [1, 0] rfl
    obtain ⟨cq1, hq1⟩ := own_rd (hM.get 1 rfl)
    refine s_append hE rfl rfl hM sl35 (Src.rd Tryd.underlying35 hq1 (intCs_one _)) (len47 (by simp; omega)) (by simp; omega) (by intro X h; cases h) rfl ?_; clear hE a; intro a v35 w5 hE hM'; clear hM; have hM := hM'; clear hM'
    replace hM := Mem.ownRowsL (f := intC) (ls := (pathL (2 ^ h + q)).take i) (ms := ([(2 ^ h + q) / 2 ^ (i + 1)] : List Nat)) hM rfl rfl
    replace hM : Mem _ _ w5 [_] := hM.pick [0] rfl
    refine s_assign hE rfl rfl ?_; clear hE a; intro a hE
    refine q_nil ?_
    replace hE : Env a 37 [(0, _), (1, _), (4, _), (5, _), (6, _), (22, _), (29, _)] := hE.sel [0, 1, 4, 5, 6, 22, 29] rfl
    refine q_block_n ?_
    refine hK9 _ _ ?_
    refine wp_plain [true, true, true] rfl rfl ?_
    refine s_move hE rfl rfl ?_; clear hE a; intro a hE
    refine s_bin hE rfl rfl (bin_quo_nat (m := ((2 ^ h + q) / 2 ^ (i + 1))) (s := 2) (by decide) (wrap_i64 (by omega) (by omega))) rfl ?_; clear hE a; intro a hE
    refine s_assign hE rfl rfl ?_; clear hE a; intro a hE
    refine q_nil ?_
    replace hE : Env a 37 [(0, _), (1, _), (4, _), (5, _), (6, _), (22, _), (29, _)] := hE.sel [0, 1, 4, 5, 6, 22, 29] rfl
    replace hE := hE.cast 6 rfl (show _ = Value.int .i64 (((2 ^ h + q) / 2 ^ ((i + 1) + 1) : Nat) : Int) from (by rw [div_step (2 ^ h + q) (i + 1)]))
    replace hM := Mem.ownRowsEq (f := intC) (ls := ((pathL (2 ^ h + q)).take i) ++ ([(2 ^ h + q) / 2 ^ (i + 1)] : List Nat)) (ms := (pathL (2 ^ h + q)).take (i + 1)) hM ((pathL_snoc hone).symm)
    replace hM : Mem _ _ w5 [_] := hM.pick [0] rfl
    exact ⟨i + 1, ⟨by omega, _, hE.sel [0, 1, 4, 5, 6, 22] rfl, hM⟩, by omega⟩
  · replace hE := hE'; clear hE'
    replace hb29 := of_decide_eq_false hb29
    replace hb29 : ¬ (1 ≤ ((2 ^ h + q) / 2 ^ (i + 1))) := by omega
    have hie : i = h := path_end hq hi (by omega)
    refine wp_cond_false (hE.eval rfl) ?_
    refine wp_exit ?_
    refine q_then_e ?_
    refine q_then_e ?_
    refine q_block_x ?_
    refine hK5 _ _ ?_
    refine wp_seq_k (fun K9 hK9 => ?_)
    refine wp_plain [true, true] rfl rfl ?_
    refine s_move hE rfl rfl ?_; clear hE a; intro a hE
    refine s_assign hE rfl rfl ?_; clear hE a; intro a hE
    refine q_nil ?_
    replace hE : Env a 37 [(0, _), (1, _), (4, _), (5, _), (6, _), (22, _), (29, _)] := hE.sel [0, 1, 4, 5, 6, 22, 29] rfl
    refine hK9 _ _ ?_
    refine wp_ret ?_
    refine f_ret1 hE rfl rfl ?_
    replace hM := Mem.ownRowsEq (f := intC) (ls := (pathL (2 ^ h + q)).take i) (ms := pathL (2 ^ h + q)) hM (by rw [hie]; exact path_all hq)
    exact ⟨_, (by first | rfl | (simp; done)), hM.pick [0] rfl⟩
theorem rpath_no1 (y : Int) (z : Int) (w : World) (hh : ¬ (1 ≤ y ∧ y ≤ 12)) : Calls Tryd.prog 20 #[.int .i64 y, .int .i64 z] w fun e w' => ∃ v'0, e = .returned (v'0) ∧ Mem w [] w' [own v'0 1 (([] : List Nat).length) (([] : List Nat).flatMap intC)] := by
  have hM := Mem.start0 w
  refine f_enter 37 Tryd.func20 rfl rfl rfl ?_
  intro a hE
  replace hE : Env a 37 [(0, _), (1, _)] := hE
  refine wp_seq_k (fun K1 hK1 => ?_)
  refine wp_plain [true] rfl rfl ?_
  refine s_assign hE rfl rfl ?_; clear hE a; intro a hE
  refine q_nil ?_
  refine hK1 _ _ ?_
  refine wp_seq_k (fun K2 hK2 => ?_)
  refine wp_seq_k (fun K3 hK3 => ?_)
  refine wp_plain [true, true, true, true, true, true, true, true, true, true, true, true, true, false, true, true] rfl rfl ?_
  refine s_move hE rfl rfl ?_; clear hE a; intro a hE
  refine s_bin hE rfl rfl bin_lss rfl ?_; clear hE a; intro a hE
  refine s_move hE rfl rfl ?_; clear hE a; intro a hE
  refine hE.split 9 rfl (fun hb9 hE' => ?_) (fun hb9 hE' => ?_)
  · replace hE := hE'; clear hE'
    replace hb9 := of_decide_eq_true hb9
    refine g_no (b := true) hE rfl rfl rfl ?_; clear hE a; intro a hE
    refine g_no (b := true) hE rfl rfl rfl ?_; clear hE a; intro a hE
    refine s_pickt hE rfl rfl rfl ?_; clear hE a; intro a hE
    refine s_move hE rfl rfl ?_; clear hE a; intro a hE
    refine g_no (b := true) hE rfl rfl rfl ?_; clear hE a; intro a hE
    refine g_no (b := true) hE rfl rfl rfl ?_; clear hE a; intro a hE
    refine s_pickt hE rfl rfl rfl ?_; clear hE a; intro a hE
    refine s_move hE rfl rfl ?_; clear hE a; intro a hE
    refine g_no (b := true) hE rfl rfl rfl ?_; clear hE a; intro a hE
    refine g_no (b := true) hE rfl rfl rfl ?_; clear hE a; intro a hE
    refine g_no (b := true) hE rfl rfl rfl ?_; clear hE a; intro a hE
    refine g_no (b := true) hE rfl rfl rfl ?_; clear hE a; intro a hE
    refine s_pickt hE rfl rfl rfl ?_; clear hE a; intro a hE
    refine q_nil ?_
    replace hE : Env a 37 [(0, _), (1, _), (4, _), (22, _)] := hE.sel [0, 1, 4, 22] rfl
    refine hK3 _ _ ?_
    refine wp_cond_true (hE.eval rfl) ?_
    refine wp_seq_k (fun K4 hK4 => ?_)
    refine wp_plain [true] rfl rfl ?_
    refine s_assign hE rfl rfl ?_; clear hE a; intro a hE
    refine q_nil ?_
    refine hK4 _ _ ?_
    refine wp_ret ?_
    refine q_then_r ?_
    refine f_ret1 hE rfl rfl ?_
    replace hM := hM.addNil 1
    replace hM := hM.ownEq (m' := ([] : List Nat).length) (cs' := ([] : List Nat).flatMap intC) rfl rfl
    exact ⟨_, (by first | rfl | (simp; done)), hM.pick [0] rfl⟩
  · replace hE := hE'; clear hE'
    replace hb9 := of_decide_eq_false hb9
    refine g_yes hE rfl rfl ?_
    refine s_move hE rfl rfl ?_; clear hE a; intro a hE
    refine g_yes hE rfl rfl ?_
    refine s_bin hE rfl rfl bin_gtr rfl ?_; clear hE a; intro a hE
    refine s_pickf hE rfl rfl rfl ?_; clear hE a; intro a hE
    refine s_move hE rfl rfl ?_; clear hE a; intro a hE
    replace hE := hE.cast 13 rfl (show _ = Value.bool true from (congrArg Value.bool (decide_eq_true (by omega))))
    refine g_no (b := true) hE rfl rfl rfl ?_; clear hE a; intro a hE
    refine g_no (b := true) hE rfl rfl rfl ?_; clear hE a; intro a hE
    refine s_pickt hE rfl rfl rfl ?_; clear hE a; intro a hE
    refine s_move hE rfl rfl ?_; clear hE a; intro a hE
    refine g_no (b := true) hE rfl rfl rfl ?_; clear hE a; intro a hE
    refine g_no (b := true) hE rfl rfl rfl ?_; clear hE a; intro a hE
    refine g_no (b := true) hE rfl rfl rfl ?_; clear hE a; intro a hE
    refine g_no (b := true) hE rfl rfl rfl ?_; clear hE a; intro a hE
    refine s_pickt hE rfl rfl rfl ?_; clear hE a; intro a hE
    refine q_nil ?_
    replace hE : Env a 37 [(0, _), (1, _), (4, _), (22, _)] := hE.sel [0, 1, 4, 22] rfl
    refine hK3 _ _ ?_
    refine wp_cond_true (hE.eval rfl) ?_
    refine wp_seq_k (fun K4 hK4 => ?_)
    refine wp_plain [true] rfl rfl ?_
    refine s_assign hE rfl rfl ?_; clear hE a; intro a hE
    refine q_nil ?_
    refine hK4 _ _ ?_
    refine wp_ret ?_
    refine q_then_r ?_
    refine f_ret1 hE rfl rfl ?_
    replace hM := hM.addNil 1
    replace hM := hM.ownEq (m' := ([] : List Nat).length) (cs' := ([] : List Nat).flatMap intC) rfl rfl
    exact ⟨_, (by first | rfl | (simp; done)), hM.pick [0] rfl⟩
theorem rpath_no2 (h : Nat) (z : Int) (w : World) (hh : 1 ≤ h ∧ h ≤ 12) (hz : ¬ inN 0 (2 ^ h) z) : Calls Tryd.prog 20 #[.int .i64 (h : Int), .int .i64 z] w fun e w' => ∃ v'0, e = .returned (v'0) ∧ Mem w [] w' [own v'0 1 (([] : List Nat).length) (([] : List Nat).flatMap intC)] := by
  have hpw := two_pow_le hh
  have hpw1 := hpw.1
  have hpw2 := hpw.2
  have hM := Mem.start0 w
  refine f_enter 37 Tryd.func20 rfl rfl rfl ?_
  intro a hE
  replace hE : Env a 37 [(0, _), (1, _)] := hE
  refine wp_seq_k (fun K1 hK1 => ?_)
  refine wp_plain [true] rfl rfl ?_
  refine s_assign hE rfl rfl ?_; clear hE a; intro a hE
  refine q_nil ?_
  refine hK1 _ _ ?_
  refine wp_seq_k (fun K2 hK2 => ?_)
  refine wp_seq_k (fun K3 hK3 => ?_)
  refine wp_plain [true, true, true, true, true, true, true, true, true, true, true, true, true, false, true, true] rfl rfl ?_
  refine s_move hE rfl rfl ?_; clear hE a; intro a hE
  refine s_bin hE rfl rfl bin_lss rfl ?_; clear hE a; intro a hE
  refine s_move hE rfl rfl ?_; clear hE a; intro a hE
  replace hE := hE.cast 9 rfl (show _ = Value.bool false from (congrArg Value.bool (decide_eq_false (by omega))))
  refine g_yes hE rfl rfl ?_
  refine s_move hE rfl rfl ?_; clear hE a; intro a hE
  refine g_yes hE rfl rfl ?_
  refine s_bin hE rfl rfl bin_gtr rfl ?_; clear hE a; intro a hE
  refine s_pickf hE rfl rfl rfl ?_; clear hE a; intro a hE
  refine s_move hE rfl rfl ?_; clear hE a; intro a hE
  replace hE := hE.cast 13 rfl (show _ = Value.bool false from (congrArg Value.bool (decide_eq_false (by omega))))
  refine g_yes hE rfl rfl ?_
  refine s_move hE rfl rfl ?_; clear hE a; intro a hE
  refine g_yes hE rfl rfl ?_
  refine s_bin hE rfl rfl bin_lss rfl ?_; clear hE a; intro a hE
  refine s_pickf hE rfl rfl rfl ?_; clear hE a; intro a hE
  refine s_move hE rfl rfl ?_; clear hE a; intro a hE
  refine hE.split 17 rfl (fun hb17 hE' => ?_) (fun hb17 hE' => ?_)
  · replace hE := hE'; clear hE'
    replace hb17 := of_decide_eq_true hb17
    refine g_no (b := true) hE rfl rfl rfl ?_; clear hE a; intro a hE
    refine g_no (b := true) hE rfl rfl rfl ?_; clear hE a; intro a hE
    refine g_no (b := true) hE rfl rfl rfl ?_; clear hE a; intro a hE
    refine g_no (b := true) hE rfl rfl rfl ?_; clear hE a; intro a hE
    refine s_pickt hE rfl rfl rfl ?_; clear hE a; intro a hE
    refine q_nil ?_
    replace hE : Env a 37 [(0, _), (1, _), (4, _), (22, _)] := hE.sel [0, 1, 4, 22] rfl
    refine hK3 _ _ ?_
    refine wp_cond_true (hE.eval rfl) ?_
    refine wp_seq_k (fun K4 hK4 => ?_)
    refine wp_plain [true] rfl rfl ?_
    refine s_assign hE rfl rfl ?_; clear hE a; intro a hE
    refine q_nil ?_
    refine hK4 _ _ ?_
    refine wp_ret ?_
    refine q_then_r ?_
    refine f_ret1 hE rfl rfl ?_
    replace hM := hM.addNil 1
    replace hM := hM.ownEq (m' := ([] : List Nat).length) (cs' := ([] : List Nat).flatMap intC) rfl rfl
    exact ⟨_, (by first | rfl | (simp; done)), hM.pick [0] rfl⟩
  · replace hE := hE'; clear hE'
    replace hb17 := of_decide_eq_false hb17
    refine g_yes hE rfl rfl ?_
    refine s_move hE rfl rfl ?_; clear hE a; intro a hE
    refine g_yes hE rfl rfl ?_
    refine s_move hE rfl rfl ?_; clear hE a; intro a hE
    refine g_yes hE rfl rfl ?_
    refine s_call hE rfl Tryd.call36 (power_c h _ (by first | omega | assumption | (simp; done) | (simp; omega) | decide)) rfl ?_
    rintro e w1 ⟨rfl, hN⟩
    refine ⟨_, rfl, trivial, ?_⟩; clear hE a; intro a hE
    replace hM : Mem _ _ w1 [] := hM.call0 hN trivial; clear hN
    refine g_yes hE rfl rfl ?_
    refine s_bin hE rfl rfl bin_geq rfl ?_; clear hE a; intro a hE
    refine s_pickf hE rfl rfl rfl ?_; clear hE a; intro a hE
    refine q_nil ?_
    replace hE : Env a 37 [(0, _), (1, _), (4, _), (22, _)] := hE.sel [0, 1, 4, 22] rfl
    refine hK3 _ _ ?_
    replace hE := hE.cast 22 rfl (show _ = Value.bool true from (congrArg Value.bool (decide_eq_true (by omega))))
    refine wp_cond_true (hE.eval rfl) ?_
    refine wp_seq_k (fun K4 hK4 => ?_)
    refine wp_plain [true] rfl rfl ?_
    refine s_assign hE rfl rfl ?_; clear hE a; intro a hE
    refine q_nil ?_
    refine hK4 _ _ ?_
    refine wp_ret ?_
    refine q_then_r ?_
    refine f_ret1 hE rfl rfl ?_
    replace hM := hM.addNil 1
    replace hM := hM.ownEq (m' := ([] : List Nat).length) (cs' := ([] : List Nat).flatMap intC) rfl rfl
    exact ⟨_, (by first | rfl | (simp; done)), hM.pick [0] rfl⟩
theorem rpathI_c (y z : Int) (w : World) : Calls Tryd.prog 20 #[.int .i64 y, .int .i64 z] w fun e w' => ∃ u, e = .returned u ∧ Mem w [] w' [own u 1 (pathZ y z).length ((pathZ y z).flatMap intC)] := by
  by_cases hh : 1 ≤ y ∧ y ≤ 12
  · obtain ⟨h, rfl⟩ : ∃ h : Nat, y = (h : Int) := ⟨y.toNat, by omega⟩
    have hh' : 1 ≤ h ∧ h ≤ 12 := by omega
    by_cases hz : inN 0 (2 ^ h) z
    · obtain ⟨q, rfl⟩ : ∃ q : Nat, z = (q : Int) := ⟨z.toNat, by omega⟩
      rw [pathZ_in hh' hz]
      exact rpath_c h q w hh' (by omega)
    · rw [pathZ_out2 hz]
      exact rpath_no2 h z w hh' hz
  · rw [pathZ_out1 hh]
    exact rpath_no1 y z w hh
theorem ints_c (u : Value) (la : List Nat) (ca : Nat) (v : Value) (lb : List Nat) (cb : Nat) (w : World) (hr_la : (rd u 1 la.length ca (la.flatMap intC)).holds w) (ho_la : ∀ x, x ∈ la → x < 4096) (hr_lb : (rd v 1 lb.length cb (lb.flatMap intC)).holds w) (ho_lb : ∀ x, x ∈ lb → x < 4096) (hlx : la.length ≤ 100000000) : Calls Tryd.prog 19 #[u, v] w fun e w' => e = .returned (.bool (decide (la = lb))) ∧ Mem w [] w' [] := by
  have hM : Mem w [] w [rd u 1 la.length ca (la.flatMap intC), rd v 1 lb.length cb (lb.flatMap intC)] := Mem.startR w (fun g hg => by
    simp only [List.mem_cons, List.not_mem_nil, or_false] at hg
    rcases hg with rfl | rfl
    · exact ⟨hr_la, rfl⟩
    · exact ⟨hr_lb, rfl⟩)
  refine f_enter 26 Tryd.func19 rfl rfl rfl ?_
  intro a hE
  replace hE : Env a 26 [(0, _), (1, _)] := hE
  refine wp_seq_k (fun K1 hK1 => ?_)
  refine wp_plain [true] rfl rfl ?_
  refine s_assign hE rfl rfl ?_; clear hE a; intro a hE
  refine q_nil ?_
  refine hK1 _ _ ?_
  refine wp_seq_k (fun K2 hK2 => ?_)
  refine wp_seq_k (fun K3 hK3 => ?_)
  refine wp_plain [true, true, true, true, true] rfl rfl ?_
  refine s_move hE rfl rfl ?_; clear hE a; intro a hE
  refine s_len hE rfl Tryd.underlying35 (rd_slice (hM.get 0 rfl)) rfl ?_; clear hE a; intro a hE
  refine s_move hE rfl rfl ?_; clear hE a; intro a hE
  refine s_len hE rfl Tryd.underlying35 (rd_slice (hM.get 1 rfl)) rfl ?_; clear hE a; intro a hE
  refine s_bin hE rfl rfl bin_neq rfl ?_; clear hE a; intro a hE
  refine q_nil ?_
  replace hE : Env a 26 [(0, _), (1, _), (4, _), (10, _)] := hE.sel [0, 1, 4, 10] rfl
  refine hK3 _ _ ?_
  refine hE.split 10 rfl (fun hb10 hE' => ?_) (fun hb10 hE' => ?_)
  · replace hE := hE'; clear hE'
    replace hb10 := of_decide_eq_false (not_true hb10)
    replace hb10 : ¬ (la.length = lb.length) := by omega
    refine wp_cond_true (hE.eval rfl) ?_
    refine wp_seq_k (fun K4 hK4 => ?_)
    refine wp_plain [true] rfl rfl ?_
    refine s_assign hE rfl rfl ?_; clear hE a; intro a hE
    refine q_nil ?_
    refine hK4 _ _ ?_
    refine wp_ret ?_
    refine q_then_r ?_
    refine f_ret1 hE rfl rfl ?_
    exact ⟨(congrArg (fun b => Ending.returned (Value.bool b)) (decide_eq_false (fun e => hb10 (by rw [e]))).symm), hM.pick [] rfl⟩
  · replace hE := hE'; clear hE'
    replace hb10 := of_decide_eq_true (not_false' hb10)
    replace hb10 : la.length = lb.length := by omega
    have hll : la.length = lb.length := by omega
    refine wp_cond_false (hE.eval rfl) ?_
    refine wp_skip ?_
    refine hK2 _ _ ?_
    refine wp_seq_k (fun K4 hK4 => ?_)
    refine wp_seq_k (fun K5 hK5 => ?_)
    refine wp_plain [true] rfl rfl ?_
    refine s_assign hE rfl rfl ?_; clear hE a; intro a hE
    refine q_nil ?_
    refine hK5 _ _ ?_
    refine wp_block ?_
    refine c_loop (fun (i : Nat) a w' => i ≤ la.length ∧ la.take i = lb.take i ∧ Env a 26 [(0, u), (1, v), (4, .bool false), (5, .int .i64 ((i : Nat) : Int)), (10, .bool false)] ∧ Mem w [] w' [rd u 1 la.length ca (la.flatMap intC), rd v 1 lb.length cb (lb.flatMap intC)]) (fun i => la.length - i) 0 ⟨Nat.zero_le _, rfl, hE.sel [0, 1, 4, 5, 10] rfl, hM⟩ ?_
    clear hE hM a; rintro i a w1 ⟨hi, hpre, hE, hM⟩
    refine wp_seq_k (fun K6 hK6 => ?_)
    refine wp_seq_k (fun K7 hK7 => ?_)
    refine wp_plain [true, true, true, true] rfl rfl ?_
    refine s_move hE rfl rfl ?_; clear hE a; intro a hE
    refine s_move hE rfl rfl ?_; clear hE a; intro a hE
    refine s_len hE rfl Tryd.underlying35 (rd_slice (hM.get 0 rfl)) rfl ?_; clear hE a; intro a hE
    refine s_bin hE rfl rfl bin_lss rfl ?_; clear hE a; intro a hE
    refine q_nil ?_
    replace hE : Env a 26 [(0, _), (1, _), (4, _), (5, _), (10, _), (14, _)] := hE.sel [0, 1, 4, 5, 10, 14] rfl
    refine hK7 _ _ ?_
    refine hE.split 14 rfl (fun hb14 hE' => ?_) (fun hb14 hE' => ?_)
    · replace hE := hE'; clear hE'
      replace hb14 := of_decide_eq_true hb14
      replace hb14 : i < la.length := by omega
      replace hb14 : i < la.length := by omega
      refine wp_cond_true (hE.eval rfl) ?_
      refine wp_skip ?_
      refine hK6 _ _ ?_
      refine wp_seq_k (fun K8 hK8 => ?_)
      refine wp_block ?_
      refine wp_seq_k (fun K9 hK9 => ?_)
      refine wp_drawnM hM (by kernel_rfl) (fun _ => False) [(0, true), (1, true), (2, true), (3, true), (4, true), (5, true), (6, true), (7, true), (8, true)] [] (by kernel_rfl) rfl ?_
      intro w2 hM' hww2; clear hM; have hM := hM'; clear hM'
      refine s_move hE rfl rfl ?_; clear hE a; intro a hE
      refine s_move hE rfl rfl ?_; clear hE a; intro a hE
      refine s_indexRd (j := i) hE rfl (hM.get 0 rfl) rfl slt35 (by first | rfl | omega) (by omega) rfl ?_; clear hE a; intro a p19 hE hc19 hp19
      have hlj19 : i < la.length := (by omega)
      have hok19 := ho_la _ (getD_mem (d := 0) hlj19)
      rw [flat_elem (d := 0) (fun x hx => (show (intC _).length = 1 from rfl)) hlj19] at hc19
      replace hc19 : (cellsAt _ [.int .i64 (((la.getD i 0) : Nat) : Int)]).holds _ := hc19
      refine s_loadAt1 hE rfl hc19 one3 (by intro X h; cases h; simp) rfl ?_; clear hE a; intro a hE
      refine s_move hE rfl rfl ?_; clear hE a; intro a hE
      refine s_move hE rfl rfl ?_; clear hE a; intro a hE
      refine s_indexRd (j := i) hE rfl (hM.get 1 rfl) rfl slt35 (by first | rfl | omega) (by omega) rfl ?_; clear hE a; intro a p23 hE hc23 hp23
      have hlj23 : i < lb.length := (by omega)
      have hok23 := ho_lb _ (getD_mem (d := 0) hlj23)
      rw [flat_elem (d := 0) (fun x hx => (show (intC _).length = 1 from rfl)) hlj23] at hc23
      replace hc23 : (cellsAt _ [.int .i64 (((lb.getD i 0) : Nat) : Int)]).holds _ := hc23
      refine s_loadAt1 hE rfl hc23 one3 (by intro X h; cases h; simp) rfl ?_; clear hE a; intro a hE
      refine s_bin hE rfl rfl bin_neq rfl ?_; clear hE a; intro a hE
      refine q_nil ?_
      replace hE : Env a 26 [(0, _), (1, _), (4, _), (5, _), (10, _), (14, _), (25, _)] := hE.sel [0, 1, 4, 5, 10, 14, 25] rfl
      refine hK9 _ _ ?_
      refine hE.split 25 rfl (fun hb25 hE' => ?_) (fun hb25 hE' => ?_)
      · replace hE := hE'; clear hE'
        replace hb25 := of_decide_eq_false (not_true hb25)
        replace hb25 : ¬ ((la.getD i 0) = (lb.getD i 0)) := by omega
        have hne : la ≠ lb := fun e => hb25 (by rw [e])
        refine wp_cond_true (hE.eval rfl) ?_
        refine wp_seq_k (fun K10 hK10 => ?_)
        refine wp_plain [true] rfl rfl ?_
        refine s_assign hE rfl rfl ?_; clear hE a; intro a hE
        refine q_nil ?_
        refine hK10 _ _ ?_
        refine wp_ret ?_
        refine q_block_r ?_
        refine q_then_r ?_
        refine q_then_r ?_
        refine q_block_r ?_
        refine q_then_r ?_
        refine f_ret1 hE rfl rfl ?_
        exact ⟨(congrArg (fun b => Ending.returned (Value.bool b)) (decide_eq_false hne).symm), hM.pick [] rfl⟩
      · replace hE := hE'; clear hE'
        replace hb25 := of_decide_eq_true (not_false' hb25)
        replace hb25 : (la.getD i 0) = (lb.getD i 0) := by omega
        have hst : la.take (i + 1) = lb.take (i + 1) := by
          rw [take_snocG (d := 0) (by omega), take_snocG (d := 0) (by omega), hpre]
          exact congrArg (fun x => lb.take i ++ [x]) hb25
        refine wp_cond_false (hE.eval rfl) ?_
        refine wp_skip ?_
        refine q_block_n ?_
        refine hK8 _ _ ?_
        refine wp_plain [true, true, true] rfl rfl ?_
        refine s_move hE rfl rfl ?_; clear hE a; intro a hE
        refine s_bin hE rfl rfl (show Bin _ _ _ _ _ (.int .i64 ((i + 1 : Nat) : Int)) from bin_add (by rw [wrap_i64 (by omega) (by omega)]; omega)) rfl ?_; clear hE a; intro a hE
        refine s_assign hE rfl rfl ?_; clear hE a; intro a hE
        refine q_nil ?_
        replace hE : Env a 26 [(0, _), (1, _), (4, _), (5, _), (10, _), (14, _), (25, _)] := hE.sel [0, 1, 4, 5, 10, 14, 25] rfl
        replace hE := hE.cast 5 rfl (show _ = Value.int .i64 (((i + 1) : Nat) : Int) from (congrArg _ (by omega)))
        replace hM : Mem _ _ w2 [_, _] := hM.pick [0, 1] rfl
        exact ⟨i + 1, ⟨by omega, hst, hE.sel [0, 1, 4, 5, 10] rfl, hM⟩, by omega⟩
    · replace hE := hE'; clear hE'
      replace hb14 := of_decide_eq_false hb14
      replace hb14 : ¬ (i < la.length) := by omega
      obtain rfl : la.length = i := by omega
      refine wp_cond_false (hE.eval rfl) ?_
      refine wp_exit ?_
      refine q_then_e ?_
      refine q_then_e ?_
      refine q_block_x ?_
      refine hK4 _ _ ?_
      refine wp_seq_k (fun K8 hK8 => ?_)
      refine wp_plain [true] rfl rfl ?_
      refine s_assign hE rfl rfl ?_; clear hE a; intro a hE
      refine q_nil ?_
      refine hK8 _ _ ?_
      refine wp_ret ?_
      refine f_ret1 hE rfl rfl ?_
      exact ⟨(congrArg (fun b => Ending.returned (Value.bool b)) (decide_eq_true (by rw [← List.take_length (l := la), hpre, hll, List.take_length])).symm), hM.pick [] rfl⟩
theorem rcheck_c (k : List UInt8) (q : Nat) (tg : List UInt8) (v : Value) (ps : List (List UInt8)) (c : Nat) (tp : List UInt8) (w : World) (hl_k : k.length = 32) (hl_tg : tg.length = 32) (hr_ps : (rd v 64 ps.length c (ps.flatMap bv)).holds w) (ho_ps : ∀ x, x ∈ ps → x.length = 64) (hl_tp : tp.length = 32) (hh : 1 ≤ ps.length ∧ ps.length ≤ 12) (hq : q < 2 ^ ps.length) : Calls Tryd.prog 18 #[.agg (bv k).toArray, .int .i64 (q : Int), .agg (bv tg).toArray, v, .agg (bv tp).toArray] w fun e w' => e = .returned (.bool (chkT k (2 ^ ps.length + q) tg ps tp)) ∧ Mem w [] w' [] := by
  have hpw := two_pow_le hh
  have hpw1 := hpw.1
  have hpw2 := hpw.2
  have hpl0 : (pathZ ((ps.length : Nat) : Int) ((q : Nat) : Int)).length = ps.length := path_len hh hq
  have hM : Mem w [] w [rd v 64 ps.length c (ps.flatMap bv)] := Mem.startR w (fun g hg => by
    simp only [List.mem_cons, List.not_mem_nil, or_false] at hg
    rcases hg with rfl
    · exact ⟨hr_ps, rfl⟩)
  refine f_enter 83 Tryd.func18 rfl rfl rfl ?_
  intro a hE
  replace hE : Env a 83 [(0, _), (1, _), (2, _), (3, _), (4, _)] := hE
  refine wp_seq_k (fun K1 hK1 => ?_)
  refine wp_plain [false, false, false, true] rfl rfl ?_
  refine s_box (ss := [bv k]) [32] hE hM rfl (by simp [Value.cells]) (by simp [*]) rfl ?_; clear hE a; intro a b5 w1 hE hM'
  clear hM; have hM := hM'; clear hM'
  refine s_box (ss := [bv tg]) [32] hE hM rfl (by simp [Value.cells]) (by simp [*]) rfl ?_; clear hE a; intro a b7 w2 hE hM'
  clear hM; have hM := hM'; clear hM'
  refine s_box (ss := [bv tp]) [32] hE hM rfl (by simp [Value.cells]) (by simp [*]) rfl ?_; clear hE a; intro a b9 w3 hE hM'
  clear hM; have hM := hM'; clear hM'
  refine s_assign hE rfl rfl ?_; clear hE a; intro a hE
  refine q_nil ?_
  replace hE : Env a 83 [(1, _), (3, _), (5, _), (7, _), (9, _), (10, _)] := hE.sel [1, 3, 5, 7, 9, 10] rfl
  refine hK1 _ _ ?_
  refine wp_seq_k (fun K2 hK2 => ?_)
  refine wp_plain [true, true, true, false, true] rfl rfl ?_
  refine s_move hE rfl rfl ?_; clear hE a; intro a hE
  refine s_len hE rfl Tryd.underlying44 (rd_slice (hM.get 3 rfl)) rfl ?_; clear hE a; intro a hE
  refine s_move hE rfl rfl ?_; clear hE a; intro a hE
  refine s_call hE rfl Tryd.call20 (rpathI_c ((ps.length : Nat) : Int) ((q : Nat) : Int) _) rfl ?_
  rintro e w4 ⟨v19, rfl, hN⟩
  refine ⟨_, rfl, trivial, ?_⟩; clear hE a; intro a hE
  replace hM : Mem _ _ w4 [_, _, _, _, _] := hM.call0 hN ⟨rfl, trivial⟩; clear hN
  refine s_assign hE rfl rfl ?_; clear hE a; intro a hE
  refine q_nil ?_
  replace hE : Env a 83 [(1, _), (3, _), (5, _), (7, _), (9, _), (10, _), (11, _)] := hE.sel [1, 3, 5, 7, 9, 10, 11] rfl
  refine hK2 _ _ ?_
  refine wp_seq_k (fun K3 hK3 => ?_)
  refine wp_seq_k (fun K4 hK4 => ?_)
  refine wp_plain [true, true, true] rfl rfl ?_
  refine s_move hE rfl rfl ?_; clear hE a; intro a hE
  refine s_len hE rfl Tryd.underlying35 (own_slice (hM.get 0 rfl)) rfl ?_; clear hE a; intro a hE
  refine s_bin hE rfl rfl bin_eql rfl ?_; clear hE a; intro a hE
  refine q_nil ?_
  replace hE : Env a 83 [(1, _), (3, _), (5, _), (7, _), (9, _), (10, _), (11, _), (22, _)] := hE.sel [1, 3, 5, 7, 9, 10, 11, 22] rfl
  refine hK4 _ _ ?_
  replace hE := hE.cast 22 rfl (show _ = Value.bool false from (congrArg Value.bool (decide_eq_false (by rw [path_len hh hq]; omega))))
  refine wp_cond_false (hE.eval rfl) ?_
  refine wp_skip ?_
  refine hK3 _ _ ?_
  refine wp_seq_k (fun K5 hK5 => ?_)
  refine wp_plain [true, true, false, true, true, true] rfl rfl ?_
  refine s_move hE rfl rfl ?_; clear hE a; intro a hE
  refine s_len hE rfl Tryd.underlying44 (rd_slice (hM.get 4 rfl)) rfl ?_; clear hE a; intro a hE
  refine s_call hE rfl Tryd.call36 (power_c ps.length _ (by first | omega | assumption | (simp; done) | (simp; omega) | decide)) rfl ?_
  rintro e w5 ⟨rfl, hN⟩
  refine ⟨_, rfl, trivial, ?_⟩; clear hE a; intro a hE
  replace hM : Mem _ _ w5 [_, _, _, _, _] := hM.call0 hN trivial; clear hN
  refine s_move hE rfl rfl ?_; clear hE a; intro a hE
  refine s_bin hE rfl rfl (show Bin _ _ _ _ _ (.int .i64 (((2 ^ ps.length) + q : Nat) : Int)) from bin_add (by rw [wrap_i64 (by omega) (by omega)]; omega)) rfl ?_; clear hE a; intro a hE
  refine s_assign hE rfl rfl ?_; clear hE a; intro a hE
  refine q_nil ?_
  replace hE : Env a 83 [(1, _), (3, _), (5, _), (7, _), (9, _), (10, _), (11, _), (12, _), (22, _)] := hE.sel [1, 3, 5, 7, 9, 10, 11, 12, 22] rfl
  refine hK5 _ _ ?_
  refine wp_seq_k (fun K6 hK6 => ?_)
  refine wp_seq_k (fun K7 hK7 => ?_)
  refine wp_plain [true] rfl rfl ?_
  refine s_assign hE rfl rfl ?_; clear hE a; intro a hE
  refine q_nil ?_
  refine hK7 _ _ ?_
  refine wp_block ?_
  replace hM : Mem _ _ w5 [_, _, _, _, _] := hM.pick [2, 0, 1, 3, 4] rfl
  replace hM := Mem.blkEq (ss := [bv tg]) (ss' := [bv (tgI k (2 ^ ps.length + q) tg ps 0)]) hM rfl
  replace hM : Mem _ _ w5 [_, _, _, _, _] := hM.pick [1, 2, 0, 3, 4] rfl
  replace hE := hE.cast 12 rfl (show _ = Value.int .i64 (((2 ^ ps.length + q) / 2 ^ 0 : Nat) : Int) from (by rw [Nat.pow_zero, Nat.div_one]))
  refine c_loop (fun (i : Nat) a w' => i ≤ (pathZ ((ps.length : Nat) : Int) ((q : Nat) : Int)).length ∧ (∀ j, j < i → mtI k (2 ^ ps.length + q) tg ps j = true) ∧ Env a 83 [(1, .int .i64 ((q : Nat) : Int)), (3, v), (5, .pointer (some ⟨b5, 0, none⟩)), (7, .pointer (some ⟨b7, 0, none⟩)), (9, .pointer (some ⟨b9, 0, none⟩)), (10, .bool false), (11, v19), (12, .int .i64 (((2 ^ ps.length + q) / 2 ^ i : Nat) : Int)), (13, .int .i64 ((i : Nat) : Int)), (22, .bool false)] ∧ Mem w [] w' [own v19 1 ((pathZ ((ps.length : Nat) : Int) ((q : Nat) : Int)).length) ((pathZ ((ps.length : Nat) : Int) ((q : Nat) : Int)).flatMap intC), blk b9 [bv tp] [32] 34, blk b7 [bv (tgI k (2 ^ ps.length + q) tg ps i)] [32] 34, blk b5 [bv k] [32] 23, rd v 64 ps.length c (ps.flatMap bv)]) (fun i => (pathZ ((ps.length : Nat) : Int) ((q : Nat) : Int)).length - i) 0 ⟨Nat.zero_le _, (fun j hj => absurd hj (by omega)), hE.sel [1, 3, 5, 7, 9, 10, 11, 12, 13, 22] rfl, hM⟩ ?_
  clear hE hM a; rintro i a w6 ⟨hi, hpre, hE, hM⟩
  refine wp_seq_k (fun K8 hK8 => ?_)
  refine wp_seq_k (fun K9 hK9 => ?_)
  refine wp_plain [true, true, true, true] rfl rfl ?_
  refine s_move hE rfl rfl ?_; clear hE a; intro a hE
  refine s_move hE rfl rfl ?_; clear hE a; intro a hE
  refine s_len hE rfl Tryd.underlying35 (own_slice (hM.get 0 rfl)) rfl ?_; clear hE a; intro a hE
  refine s_bin hE rfl rfl bin_lss rfl ?_; clear hE a; intro a hE
  refine q_nil ?_
  replace hE : Env a 83 [(1, _), (3, _), (5, _), (7, _), (9, _), (10, _), (11, _), (12, _), (13, _), (22, _), (31, _)] := hE.sel [1, 3, 5, 7, 9, 10, 11, 12, 13, 22, 31] rfl
  refine hK9 _ _ ?_
  refine hE.split 31 rfl (fun hb31 hE' => ?_) (fun hb31 hE' => ?_)
  · replace hE := hE'; clear hE'
    replace hb31 := of_decide_eq_true hb31
    replace hb31 : i < ((pathZ ((ps.length : Nat) : Int) ((q : Nat) : Int)).length) := by omega
    replace hb31 : i < (pathZ ((ps.length : Nat) : Int) ((q : Nat) : Int)).length := by omega
    have hpe : (pathZ ((ps.length : Nat) : Int) ((q : Nat) : Int)).getD i 0 = (2 ^ ps.length + q) / 2 ^ i / 2 := by rw [path_getD hh hq (by omega), div_step]
    have hdl : (2 ^ ps.length + q) / 2 ^ i ≤ (2 ^ ps.length + q) := Nat.div_le_self _ _
    have hpn : (pathZ ((ps.length : Nat) : Int) ((q : Nat) : Int)).getD i 0 < 2 ^ ps.length := path_num hh hq (by omega)
    refine wp_cond_true (hE.eval rfl) ?_
    refine wp_skip ?_
    refine hK8 _ _ ?_
    refine wp_seq_k (fun K10 hK10 => ?_)
    refine wp_block ?_
    refine wp_seq_k (fun K11 hK11 => ?_)
    refine wp_plain [true, true, true, true, false, true, true, true, false, false, false, false] rfl rfl ?_
    refine s_move hE rfl rfl ?_; clear hE a; intro a hE
    refine s_move hE rfl rfl ?_; clear hE a; intro a hE
    refine s_indexRd (j := i) hE rfl (hM.get 4 rfl) rfl slt44 (by first | rfl | omega) (by first | omega | (simp; omega) | (simp [*]; omega)) rfl ?_; clear hE a; intro a p37 hE hc37 hp37
    have hlj37 : i < ps.length := (by first | omega | (simp; omega))
    have hok37 := ho_ps _ (getD_mem (d := zSc) hlj37)
    rw [flat_elem (d := zSc) (fun x hx => ((bv_length _).trans (ho_ps x hx))) hlj37] at hc37
    refine s_loadAtN hE rfl hc37 (by rw [((bv_length _).trans hok37)]; exact row52) (by intro X h; cases h) rfl ?_; clear hE a; intro a hE
    replace hE := hE.cast 38 rfl (show _ = Value.agg (bv (ps.getD i zSc)).toArray from rfl)
    refine s_call hE rfl Tryd.call37 (rsplit_c (ps.getD i zSc) _ hok37) rfl ?_
    rintro e w7 ⟨rfl, hN⟩
    refine ⟨_, rfl, trivial, ?_⟩; clear hE a; intro a hE
    replace hM : Mem _ _ w7 [_, _, _, _, _] := hM.call0 hN trivial; clear hN
    refine s_move hE rfl rfl ?_; clear hE a; intro a hE
    refine s_extract hE rfl rfl rfl ?_; clear hE a; intro a hE
    refine s_extract hE rfl rfl rfl ?_; clear hE a; intro a hE
    refine s_alloc [32] hE hM zero34 rfl rfl ?_; clear hE a; intro a b14 w8 hE hM'
    clear hM; have hM := hM'; clear hM'
    refine s_alloc [32] hE hM zero34 rfl rfl ?_; clear hE a; intro a b15 w9 hE hM'
    clear hM; have hM := hM'; clear hM'
    replace hM : Mem _ _ w9 [_, _, _, _, _, _, _] := hM.pick [1, 0, 2, 3, 4, 5, 6] rfl
    refine s_storeSeg 0 hE rfl rfl hM rfl sz34 ((bv_length _).trans (by simp [*])) (bv_one _) rfl ((bv_length _).trans (by first | (simp; done) | (simp [*]; done) | (simp; omega))) rfl (by intro X h; cases h) ?_; intro w10 hM'; clear hM; have hM := hM'; clear hM'
    simp only [List.set_cons_zero, List.set_cons_succ] at hM
    replace hM : Mem _ _ w10 [_, _, _, _, _, _, _] := hM.pick [1, 0, 2, 3, 4, 5, 6] rfl
    refine s_storeSeg 0 hE rfl rfl hM rfl sz34 ((bv_length _).trans (by simp [*])) (bv_one _) rfl ((bv_length _).trans (by first | (simp; done) | (simp [*]; done) | (simp; omega))) rfl (by intro X h; cases h) ?_; intro w11 hM'; clear hM; have hM := hM'; clear hM'
    simp only [List.set_cons_zero, List.set_cons_succ] at hM
    refine q_nil ?_
    replace hE : Env a 83 [(1, _), (3, _), (5, _), (7, _), (9, _), (10, _), (11, _), (12, _), (13, _), (14, _), (15, _), (22, _), (31, _)] := hE.sel [1, 3, 5, 7, 9, 10, 11, 12, 13, 14, 15, 22, 31] rfl
    refine hK11 _ _ ?_
    refine wp_seq_k (fun K12 hK12 => ?_)
    refine wp_seq_k (fun K13 hK13 => ?_)
    refine wp_plain [true, true, true, true, true, true, true, true, true, true, true, true, true, true, true, true, true, true, true, true, true, true, true, true, true, true, true] rfl rfl ?_
    refine s_move hE rfl rfl ?_; clear hE a; intro a hE
    refine s_move hE rfl rfl ?_; clear hE a; intro a hE
    refine s_move hE rfl rfl ?_; clear hE a; intro a hE
    obtain ⟨cx45, hx45⟩ := own_rd (hM.get 2 rfl)
    refine s_indexRd (j := i) hE rfl hx45 rfl slt35 (by first | rfl | omega) (by first | omega | (simp; omega) | (simp [*]; omega)) rfl ?_; clear hE a; intro a p45 hE hc45 hp45
    have hlj45 : i < (pathZ ((ps.length : Nat) : Int) ((q : Nat) : Int)).length := (by first | omega | (simp; omega))
    have hok45 := pathZ_ok _ (getD_mem (d := 0) hlj45)
    rw [flat_elem (d := 0) (fun x hx => (show (intC _).length = 1 from rfl)) hlj45] at hc45
    replace hc45 : (cellsAt _ [.int .i64 ((((pathZ ((ps.length : Nat) : Int) ((q : Nat) : Int)).getD i 0) : Nat) : Int)]).holds _ := hc45
    refine s_loadAt1 hE rfl hc45 one3 (by intro X h; cases h) rfl ?_; clear hE a; intro a hE
    refine s_bin hE rfl rfl (show Bin _ _ _ _ _ (.int .i64 ((2 * ((pathZ ((ps.length : Nat) : Int) ((q : Nat) : Int)).getD i 0) : Nat) : Int)) from bin_mul (by rw [wrap_i64 (by omega) (by omega)]; omega)) rfl ?_; clear hE a; intro a hE
    refine s_bin hE rfl rfl bin_eql rfl ?_; clear hE a; intro a hE
    refine s_move hE rfl rfl ?_; clear hE a; intro a hE
    refine hE.split 49 rfl (fun hb49 hE' => ?_) (fun hb49 hE' => ?_)
    · replace hE := hE'; clear hE'
      replace hb49 := of_decide_eq_true hb49
      replace hb49 : ((2 ^ ps.length + q) / 2 ^ i) = (2 * ((pathZ ((ps.length : Nat) : Int) ((q : Nat) : Int)).getD i 0)) := by omega
      have hev : (2 ^ ps.length + q) / 2 ^ i % 2 = 0 := by omega
      refine g_yes hE rfl rfl ?_
      refine s_loadN hE rfl (hM.get 1 rfl) row34 rfl (by intro X h; cases h) rfl ?_; clear hE a; intro a hE
      refine g_yes hE rfl rfl ?_
      refine s_loadN hE rfl (hM.get 4 rfl) row34 rfl (by intro X h; cases h) rfl ?_; clear hE a; intro a hE
      refine g_yes hE rfl rfl ?_
      refine s_bin hE rfl rfl (eqa34 (by simp [*]) (tgI_len hl_tg _)).2 rfl ?_; clear hE a; intro a hE
      refine s_pickt hE rfl rfl rfl ?_; clear hE a; intro a hE
      refine s_move hE rfl rfl ?_; clear hE a; intro a hE
      refine hE.split 54 rfl (fun hb54 hE' => ?_) (fun hb54 hE' => ?_)
      · replace hE := hE'; clear hE'
        replace hb54 := of_decide_eq_false (not_true hb54)
        have hne : mtI k (2 ^ ps.length + q) tg ps i = false := by rw [mt_even hev]; exact decide_eq_false (fun e => hb54 e)
        refine g_no (b := true) hE rfl rfl rfl ?_; clear hE a; intro a hE
        refine g_no (b := true) hE rfl rfl rfl ?_; clear hE a; intro a hE
        refine g_no (b := true) hE rfl rfl rfl ?_; clear hE a; intro a hE
        refine g_no (b := true) hE rfl rfl rfl ?_; clear hE a; intro a hE
        refine g_no (b := true) hE rfl rfl rfl ?_; clear hE a; intro a hE
        refine g_no (b := true) hE rfl rfl rfl ?_; clear hE a; intro a hE
        refine g_no (b := true) hE rfl rfl rfl ?_; clear hE a; intro a hE
        refine g_no (b := true) hE rfl rfl rfl ?_; clear hE a; intro a hE
        refine g_no (b := true) hE rfl rfl rfl ?_; clear hE a; intro a hE
        refine g_und hE rfl rfl rfl ?_; clear hE a; intro a hE
        refine g_und hE rfl rfl rfl ?_; clear hE a; intro a hE
        refine g_und hE rfl rfl rfl ?_; clear hE a; intro a hE
        refine g_no (b := true) hE rfl rfl rfl ?_; clear hE a; intro a hE
        refine s_pickt hE rfl rfl rfl ?_; clear hE a; intro a hE
        refine q_nil ?_
        replace hE : Env a 83 [(1, _), (3, _), (5, _), (7, _), (9, _), (10, _), (11, _), (12, _), (13, _), (14, _), (15, _), (22, _), (31, _), (68, _)] := hE.sel [1, 3, 5, 7, 9, 10, 11, 12, 13, 14, 15, 22, 31, 68] rfl
        refine hK13 _ _ ?_
        refine wp_cond_true (hE.eval rfl) ?_
        refine wp_seq_k (fun K14 hK14 => ?_)
        refine wp_plain [true] rfl rfl ?_
        refine s_assign hE rfl rfl ?_; clear hE a; intro a hE
        refine q_nil ?_
        refine hK14 _ _ ?_
        refine wp_ret ?_
        refine q_then_r ?_
        refine q_block_r ?_
        refine q_then_r ?_
        refine q_then_r ?_
        refine q_block_r ?_
        refine q_then_r ?_
        refine f_ret1 hE rfl rfl ?_
        exact ⟨(by rw [chkT_no (by omega) hne]), hM.pick [] rfl⟩
      · replace hE := hE'; clear hE'
        replace hb54 := of_decide_eq_true (not_false' hb54)
        have hyes : mtI k (2 ^ ps.length + q) tg ps i = true := by rw [mt_even hev]; exact decide_eq_true hb54
        refine g_yes hE rfl rfl ?_
        refine s_move hE rfl rfl ?_; clear hE a; intro a hE
        refine g_yes hE rfl rfl ?_
        refine s_move hE rfl rfl ?_; clear hE a; intro a hE
        refine g_yes hE rfl rfl ?_
        refine s_move hE rfl rfl ?_; clear hE a; intro a hE
        refine g_yes hE rfl rfl ?_
        obtain ⟨cx58, hx58⟩ := own_rd (hM.get 2 rfl)
        refine s_indexRd (j := i) hE rfl hx58 rfl slt35 (by first | rfl | omega) (by first | omega | (simp; omega) | (simp [*]; omega)) rfl ?_; clear hE a; intro a p58 hE hc58 hp58
        have hlj58 : i < (pathZ ((ps.length : Nat) : Int) ((q : Nat) : Int)).length := (by first | omega | (simp; omega))
        have hok58 := pathZ_ok _ (getD_mem (d := 0) hlj58)
        rw [flat_elem (d := 0) (fun x hx => (show (intC _).length = 1 from rfl)) hlj58] at hc58
        refine g_yes hE rfl rfl ?_
        replace hc58 : (cellsAt _ [.int .i64 ((((pathZ ((ps.length : Nat) : Int) ((q : Nat) : Int)).getD i 0) : Nat) : Int)]).holds _ := hc58
        refine s_loadAt1 hE rfl hc58 one3 (by intro X h; cases h) rfl ?_; clear hE a; intro a hE
        refine g_yes hE rfl rfl ?_
        refine s_bin hE rfl rfl (show Bin _ _ _ _ _ (.int .i64 ((2 * ((pathZ ((ps.length : Nat) : Int) ((q : Nat) : Int)).getD i 0) : Nat) : Int)) from bin_mul (by rw [wrap_i64 (by omega) (by omega)]; omega)) rfl ?_; clear hE a; intro a hE
        refine g_yes hE rfl rfl ?_
        refine s_bin hE rfl rfl (show Bin _ _ _ _ _ (.int .i64 (((2 * ((pathZ ((ps.length : Nat) : Int) ((q : Nat) : Int)).getD i 0)) + 1 : Nat) : Int)) from bin_add (by rw [wrap_i64 (by omega) (by omega)]; omega)) rfl ?_; clear hE a; intro a hE
        refine g_yes hE rfl rfl ?_
        refine s_bin hE rfl rfl bin_eql rfl ?_; clear hE a; intro a hE
        refine g_yes hE rfl rfl ?_
        refine s_move hE rfl rfl ?_; clear hE a; intro a hE
        replace hE := hE.cast 63 rfl (show _ = Value.bool false from (congrArg Value.bool (decide_eq_false (by omega))))
        refine g_no (b := false) hE rfl rfl rfl ?_; clear hE a; intro a hE
        refine g_no (b := false) hE rfl rfl rfl ?_; clear hE a; intro a hE
        refine g_no (b := false) hE rfl rfl rfl ?_; clear hE a; intro a hE
        refine g_yes hE rfl rfl ?_
        refine s_pickf hE rfl rfl rfl ?_; clear hE a; intro a hE
        refine s_pickf hE rfl rfl rfl ?_; clear hE a; intro a hE
        refine q_nil ?_
        replace hE : Env a 83 [(1, _), (3, _), (5, _), (7, _), (9, _), (10, _), (11, _), (12, _), (13, _), (14, _), (15, _), (22, _), (31, _), (68, _)] := hE.sel [1, 3, 5, 7, 9, 10, 11, 12, 13, 14, 15, 22, 31, 68] rfl
        refine hK13 _ _ ?_
        refine wp_cond_false (hE.eval rfl) ?_
        refine wp_skip ?_
        refine hK12 _ _ ?_
        refine wp_seq_k (fun K14 hK14 => ?_)
        refine wp_plain [true, true, true, true, true] rfl rfl ?_
        refine s_move hE rfl rfl ?_; clear hE a; intro a hE
        refine s_move hE rfl rfl ?_; clear hE a; intro a hE
        obtain ⟨cx71, hx71⟩ := own_rd (hM.get 2 rfl)
        refine s_indexRd (j := i) hE rfl hx71 rfl slt35 (by first | rfl | omega) (by first | omega | (simp; omega) | (simp [*]; omega)) rfl ?_; clear hE a; intro a p71 hE hc71 hp71
        have hlj71 : i < (pathZ ((ps.length : Nat) : Int) ((q : Nat) : Int)).length := (by first | omega | (simp; omega))
        have hok71 := pathZ_ok _ (getD_mem (d := 0) hlj71)
        rw [flat_elem (d := 0) (fun x hx => (show (intC _).length = 1 from rfl)) hlj71] at hc71
        replace hc71 : (cellsAt _ [.int .i64 ((((pathZ ((ps.length : Nat) : Int) ((q : Nat) : Int)).getD i 0) : Nat) : Int)]).holds _ := hc71
        refine s_loadAt1 hE rfl hc71 one3 (by intro X h; cases h) rfl ?_; clear hE a; intro a hE
        refine s_assign hE rfl rfl ?_; clear hE a; intro a hE
        refine q_nil ?_
        replace hE : Env a 83 [(1, _), (3, _), (5, _), (7, _), (9, _), (10, _), (11, _), (12, _), (13, _), (14, _), (15, _), (22, _), (31, _), (68, _)] := hE.sel [1, 3, 5, 7, 9, 10, 11, 12, 13, 14, 15, 22, 31, 68] rfl
        refine hK14 _ _ ?_
        refine wp_treeM hM (by kernel_rfl) (fun _ => True) (fun _ => True) (.re [(1, true), (2, true), (3, true), (4, true), (0, true), (5, true), (6, false), (7, false)] (.fl 4 (.weak (.fl 2 (.or 6 (.cut (.re [(7, false)] (.fl 0 (.fl 0 (.weak (.or 7 (.cut (.re [] (.weak (.leaf 0)))) (.stop))))))) (.stop)))))) [(1, true), (2, true), (3, true), (4, true), (0, true), (5, true), (6, false), (7, false)] [(0, [(6, 0), (7, 0)]), (4, [(5, 4), (6, 5), (7, 4)]), (5, [(6, 5), (7, 5)]), (6, [(7, 6)]), (7, [])] (by kernel_rfl) ?_
        intro w12 hM' hww12; clear hM; have hM := hM'; clear hM'
        refine o_re ?_
        refine o_fl rfl ?_
        refine s_move hE rfl rfl ?_; clear hE a; intro a hE
        refine s_move hE rfl rfl ?_; clear hE a; intro a hE
        refine s_move hE rfl rfl ?_; clear hE a; intro a hE
        refine s_indexRd (j := i) hE rfl (hM.get 6 rfl) rfl slt44 (by first | rfl | omega) (by first | omega | (simp; omega) | (simp [*]; omega)) rfl ?_; clear hE a; intro a p77 hE hc77 hp77
        have hlj77 : i < ps.length := (by first | omega | (simp; omega))
        have hok77 := ho_ps _ (getD_mem (d := zSc) hlj77)
        rw [flat_elem (d := zSc) (fun x hx => ((bv_length _).trans (ho_ps x hx))) hlj77] at hc77
        refine q_nil (q_nx ?_)
        refine o_weak (fun _ => False) (fun _ _ => trivial) ?_
        refine o_fl rfl ?_
        refine s_loadN hE rfl (hM.get 5 rfl) row23 rfl (by intro X h; cases h; simp) rfl ?_; clear hE a; intro a hE
        refine s_loadAtN hE rfl hc77 (by rw [((bv_length _).trans hok77)]; exact row52) (by intro X h; cases h; simp) rfl ?_; clear hE a; intro a hE
        replace hE := hE.cast 78 rfl (show _ = Value.agg (bv (ps.getD i zSc)).toArray from rfl)
        refine q_nil (q_nx ?_)
        refine o_or rfl ?_ ?_
        · refine s_call hE rfl Tryd.call38 (rnode_c k ((((pathZ ((ps.length : Nat) : Int) ((q : Nat) : Int)).getD i 0) : Nat) : Int) (ps.getD i zSc) _ hl_k hok77) rfl ?_
          rintro e w13 ⟨rfl, hN⟩
          refine ⟨_, rfl, hN.sta0 _, ?_⟩; clear hE a; intro a hE
          replace hM : Mem _ _ w13 [_, _, _, _, _, _, _] := hM.call0 hN trivial; clear hN
          replace hE := hE.cast 79 rfl (show _ = Value.agg (bv (nd k ((pathZ ((ps.length : Nat) : Int) ((q : Nat) : Int)).getD i 0) (ps.getD i zSc))).toArray from rfl)
          refine q_nil (q_nx ?_)
          refine o_cut (fun _ => True) ?_
          refine o_re ?_
          refine o_fl rfl ?_
          refine q_nil (q_nx ?_)
          refine o_fl rfl ?_
          refine q_nil (q_nx ?_)
          refine o_weak (fun b => b = b7) (fun _ _ => trivial) ?_
          refine o_or rfl ?_ ?_
          · replace hM : Mem _ _ w13 [_, _, _, _, _, _, _] := hM.pick [4, 0, 1, 2, 3, 5, 6] rfl
            refine s_storeSeg 0 hE rfl rfl hM rfl sz34 ((bv_length _).trans (nd_len ..)) (bv_one _) rfl ((bv_length _).trans (tgI_len hl_tg _)) rfl (by intro X h; cases h; rfl) ?_; intro w14 hM'; clear hM; have hM := hM'; clear hM'
            simp only [List.set_cons_zero, List.set_cons_succ] at hM
            refine q_nil (q_nx ?_)
            refine o_cut (fun _ => True) ?_
            refine o_re ?_
            refine o_weak (fun _ => False) (fun _ _ => trivial) ?_
            refine o_leaf rfl rfl ?_
            refine q_nil (q_ph (q_nil ?_))
            replace hE : Env a 83 [(1, _), (3, _), (5, _), (7, _), (9, _), (10, _), (11, _), (12, _), (13, _), (14, _), (15, _), (22, _), (31, _), (68, _)] := hE.sel [1, 3, 5, 7, 9, 10, 11, 12, 13, 14, 15, 22, 31, 68] rfl
            refine q_block_n ?_
            refine hK10 _ _ ?_
            refine wp_plain [true, true, true] rfl rfl ?_
            refine s_move hE rfl rfl ?_; clear hE a; intro a hE
            refine s_bin hE rfl rfl (show Bin _ _ _ _ _ (.int .i64 ((i + 1 : Nat) : Int)) from bin_add (by rw [wrap_i64 (by omega) (by omega)]; omega)) rfl ?_; clear hE a; intro a hE
            refine s_assign hE rfl rfl ?_; clear hE a; intro a hE
            refine q_nil ?_
            replace hE : Env a 83 [(1, _), (3, _), (5, _), (7, _), (9, _), (10, _), (11, _), (12, _), (13, _), (14, _), (15, _), (22, _), (31, _), (68, _)] := hE.sel [1, 3, 5, 7, 9, 10, 11, 12, 13, 14, 15, 22, 31, 68] rfl
            replace hE := hE.cast 12 rfl (show _ = Value.int .i64 (((2 ^ ps.length + q) / 2 ^ (i + 1) : Nat) : Int) from (by rw [path_getD hh hq (by omega)]))
            replace hE := hE.cast 13 rfl (show _ = Value.int .i64 (((i + 1) : Nat) : Int) from (congrArg _ (by omega)))
            replace hM := Mem.blkEq (ss := [bv (nd k ((pathZ ((ps.length : Nat) : Int) ((q : Nat) : Int)).getD i 0) (ps.getD i zSc))]) (ss' := [bv (tgI k (2 ^ ps.length + q) tg ps (i + 1))]) hM (by rw [path_getD hh hq (by omega)]; rfl)
            replace hM : Mem _ _ w14 [_, _, _, _, _] := hM.pick [0, 3, 4, 5, 6] rfl
            replace hM : Mem _ _ w14 [_, _, _, _, _] := hM.pick [1, 2, 0, 3, 4] rfl
            exact ⟨i + 1, ⟨by omega, mt_snoc hpre hyes, hE.sel [1, 3, 5, 7, 9, 10, 11, 12, 13, 22] rfl, hM⟩, by omega⟩
          trivial
        trivial
    · replace hE := hE'; clear hE'
      replace hb49 := of_decide_eq_false hb49
      replace hb49 : ¬ (((2 ^ ps.length + q) / 2 ^ i) = (2 * ((pathZ ((ps.length : Nat) : Int) ((q : Nat) : Int)).getD i 0))) := by omega
      have hev : ¬ (2 ^ ps.length + q) / 2 ^ i % 2 = 0 := by omega
      refine g_no (b := false) hE rfl rfl rfl ?_; clear hE a; intro a hE
      refine g_no (b := false) hE rfl rfl rfl ?_; clear hE a; intro a hE
      refine g_no (b := false) hE rfl rfl rfl ?_; clear hE a; intro a hE
      refine s_pickf hE rfl rfl rfl ?_; clear hE a; intro a hE
      refine s_move hE rfl rfl ?_; clear hE a; intro a hE
      refine g_yes hE rfl rfl ?_
      refine s_move hE rfl rfl ?_; clear hE a; intro a hE
      refine g_yes hE rfl rfl ?_
      refine s_move hE rfl rfl ?_; clear hE a; intro a hE
      refine g_yes hE rfl rfl ?_
      refine s_move hE rfl rfl ?_; clear hE a; intro a hE
      refine g_yes hE rfl rfl ?_
      obtain ⟨cx58, hx58⟩ := own_rd (hM.get 2 rfl)
      refine s_indexRd (j := i) hE rfl hx58 rfl slt35 (by first | rfl | omega) (by first | omega | (simp; omega) | (simp [*]; omega)) rfl ?_; clear hE a; intro a p58 hE hc58 hp58
      have hlj58 : i < (pathZ ((ps.length : Nat) : Int) ((q : Nat) : Int)).length := (by first | omega | (simp; omega))
      have hok58 := pathZ_ok _ (getD_mem (d := 0) hlj58)
      rw [flat_elem (d := 0) (fun x hx => (show (intC _).length = 1 from rfl)) hlj58] at hc58
      refine g_yes hE rfl rfl ?_
      replace hc58 : (cellsAt _ [.int .i64 ((((pathZ ((ps.length : Nat) : Int) ((q : Nat) : Int)).getD i 0) : Nat) : Int)]).holds _ := hc58
      refine s_loadAt1 hE rfl hc58 one3 (by intro X h; cases h) rfl ?_; clear hE a; intro a hE
      refine g_yes hE rfl rfl ?_
      refine s_bin hE rfl rfl (show Bin _ _ _ _ _ (.int .i64 ((2 * ((pathZ ((ps.length : Nat) : Int) ((q : Nat) : Int)).getD i 0) : Nat) : Int)) from bin_mul (by rw [wrap_i64 (by omega) (by omega)]; omega)) rfl ?_; clear hE a; intro a hE
      refine g_yes hE rfl rfl ?_
      refine s_bin hE rfl rfl (show Bin _ _ _ _ _ (.int .i64 (((2 * ((pathZ ((ps.length : Nat) : Int) ((q : Nat) : Int)).getD i 0)) + 1 : Nat) : Int)) from bin_add (by rw [wrap_i64 (by omega) (by omega)]; omega)) rfl ?_; clear hE a; intro a hE
      refine g_yes hE rfl rfl ?_
      refine s_bin hE rfl rfl bin_eql rfl ?_; clear hE a; intro a hE
      refine g_yes hE rfl rfl ?_
      refine s_move hE rfl rfl ?_; clear hE a; intro a hE
      replace hE := hE.cast 63 rfl (show _ = Value.bool true from (congrArg Value.bool (decide_eq_true (by omega))))
      refine g_yes hE rfl rfl ?_
      refine s_loadN hE rfl (hM.get 0 rfl) row34 rfl (by intro X h; cases h) rfl ?_; clear hE a; intro a hE
      refine g_yes hE rfl rfl ?_
      refine s_loadN hE rfl (hM.get 4 rfl) row34 rfl (by intro X h; cases h) rfl ?_; clear hE a; intro a hE
      refine g_yes hE rfl rfl ?_
      refine s_bin hE rfl rfl (eqa34 (by simp [*]) (tgI_len hl_tg _)).2 rfl ?_; clear hE a; intro a hE
      refine g_yes hE rfl rfl ?_
      refine s_pickt hE rfl rfl rfl ?_; clear hE a; intro a hE
      refine s_pickf hE rfl rfl rfl ?_; clear hE a; intro a hE
      refine q_nil ?_
      replace hE : Env a 83 [(1, _), (3, _), (5, _), (7, _), (9, _), (10, _), (11, _), (12, _), (13, _), (14, _), (15, _), (22, _), (31, _), (68, _)] := hE.sel [1, 3, 5, 7, 9, 10, 11, 12, 13, 14, 15, 22, 31, 68] rfl
      refine hK13 _ _ ?_
      refine hE.split 68 rfl (fun hb68 hE' => ?_) (fun hb68 hE' => ?_)
      · replace hE := hE'; clear hE'
        replace hb68 := of_decide_eq_false (not_true hb68)
        have hne : mtI k (2 ^ ps.length + q) tg ps i = false := by rw [mt_odd hev]; exact decide_eq_false (fun e => hb68 e)
        refine wp_cond_true (hE.eval rfl) ?_
        refine wp_seq_k (fun K14 hK14 => ?_)
        refine wp_plain [true] rfl rfl ?_
        refine s_assign hE rfl rfl ?_; clear hE a; intro a hE
        refine q_nil ?_
        refine hK14 _ _ ?_
        refine wp_ret ?_
        refine q_then_r ?_
        refine q_block_r ?_
        refine q_then_r ?_
        refine q_then_r ?_
        refine q_block_r ?_
        refine q_then_r ?_
        refine f_ret1 hE rfl rfl ?_
        exact ⟨(by rw [chkT_no (by omega) hne]), hM.pick [] rfl⟩
      · replace hE := hE'; clear hE'
        replace hb68 := of_decide_eq_true (not_false' hb68)
        have hyes : mtI k (2 ^ ps.length + q) tg ps i = true := by rw [mt_odd hev]; exact decide_eq_true hb68
        refine wp_cond_false (hE.eval rfl) ?_
        refine wp_skip ?_
        refine hK12 _ _ ?_
        refine wp_seq_k (fun K14 hK14 => ?_)
        refine wp_plain [true, true, true, true, true] rfl rfl ?_
        refine s_move hE rfl rfl ?_; clear hE a; intro a hE
        refine s_move hE rfl rfl ?_; clear hE a; intro a hE
        obtain ⟨cx71, hx71⟩ := own_rd (hM.get 2 rfl)
        refine s_indexRd (j := i) hE rfl hx71 rfl slt35 (by first | rfl | omega) (by first | omega | (simp; omega) | (simp [*]; omega)) rfl ?_; clear hE a; intro a p71 hE hc71 hp71
        have hlj71 : i < (pathZ ((ps.length : Nat) : Int) ((q : Nat) : Int)).length := (by first | omega | (simp; omega))
        have hok71 := pathZ_ok _ (getD_mem (d := 0) hlj71)
        rw [flat_elem (d := 0) (fun x hx => (show (intC _).length = 1 from rfl)) hlj71] at hc71
        replace hc71 : (cellsAt _ [.int .i64 ((((pathZ ((ps.length : Nat) : Int) ((q : Nat) : Int)).getD i 0) : Nat) : Int)]).holds _ := hc71
        refine s_loadAt1 hE rfl hc71 one3 (by intro X h; cases h) rfl ?_; clear hE a; intro a hE
        refine s_assign hE rfl rfl ?_; clear hE a; intro a hE
        refine q_nil ?_
        replace hE : Env a 83 [(1, _), (3, _), (5, _), (7, _), (9, _), (10, _), (11, _), (12, _), (13, _), (14, _), (15, _), (22, _), (31, _), (68, _)] := hE.sel [1, 3, 5, 7, 9, 10, 11, 12, 13, 14, 15, 22, 31, 68] rfl
        refine hK14 _ _ ?_
        refine wp_treeM hM (by kernel_rfl) (fun _ => True) (fun _ => True) (.re [(1, true), (2, true), (3, true), (4, true), (0, true), (5, true), (6, false), (7, false)] (.fl 4 (.weak (.fl 2 (.or 6 (.cut (.re [(7, false)] (.fl 0 (.fl 0 (.weak (.or 7 (.cut (.re [] (.weak (.leaf 0)))) (.stop))))))) (.stop)))))) [(1, true), (2, true), (3, true), (4, true), (0, true), (5, true), (6, false), (7, false)] [(0, [(6, 0), (7, 0)]), (4, [(5, 4), (6, 5), (7, 4)]), (5, [(6, 5), (7, 5)]), (6, [(7, 6)]), (7, [])] (by kernel_rfl) ?_
        intro w12 hM' hww12; clear hM; have hM := hM'; clear hM'
        refine o_re ?_
        refine o_fl rfl ?_
        refine s_move hE rfl rfl ?_; clear hE a; intro a hE
        refine s_move hE rfl rfl ?_; clear hE a; intro a hE
        refine s_move hE rfl rfl ?_; clear hE a; intro a hE
        refine s_indexRd (j := i) hE rfl (hM.get 6 rfl) rfl slt44 (by first | rfl | omega) (by first | omega | (simp; omega) | (simp [*]; omega)) rfl ?_; clear hE a; intro a p77 hE hc77 hp77
        have hlj77 : i < ps.length := (by first | omega | (simp; omega))
        have hok77 := ho_ps _ (getD_mem (d := zSc) hlj77)
        rw [flat_elem (d := zSc) (fun x hx => ((bv_length _).trans (ho_ps x hx))) hlj77] at hc77
        refine q_nil (q_nx ?_)
        refine o_weak (fun _ => False) (fun _ _ => trivial) ?_
        refine o_fl rfl ?_
        refine s_loadN hE rfl (hM.get 5 rfl) row23 rfl (by intro X h; cases h; simp) rfl ?_; clear hE a; intro a hE
        refine s_loadAtN hE rfl hc77 (by rw [((bv_length _).trans hok77)]; exact row52) (by intro X h; cases h; simp) rfl ?_; clear hE a; intro a hE
        replace hE := hE.cast 78 rfl (show _ = Value.agg (bv (ps.getD i zSc)).toArray from rfl)
        refine q_nil (q_nx ?_)
        refine o_or rfl ?_ ?_
        · refine s_call hE rfl Tryd.call38 (rnode_c k ((((pathZ ((ps.length : Nat) : Int) ((q : Nat) : Int)).getD i 0) : Nat) : Int) (ps.getD i zSc) _ hl_k hok77) rfl ?_
          rintro e w13 ⟨rfl, hN⟩
          refine ⟨_, rfl, hN.sta0 _, ?_⟩; clear hE a; intro a hE
          replace hM : Mem _ _ w13 [_, _, _, _, _, _, _] := hM.call0 hN trivial; clear hN
          replace hE := hE.cast 79 rfl (show _ = Value.agg (bv (nd k ((pathZ ((ps.length : Nat) : Int) ((q : Nat) : Int)).getD i 0) (ps.getD i zSc))).toArray from rfl)
          refine q_nil (q_nx ?_)
          refine o_cut (fun _ => True) ?_
          refine o_re ?_
          refine o_fl rfl ?_
          refine q_nil (q_nx ?_)
          refine o_fl rfl ?_
          refine q_nil (q_nx ?_)
          refine o_weak (fun b => b = b7) (fun _ _ => trivial) ?_
          refine o_or rfl ?_ ?_
          · replace hM : Mem _ _ w13 [_, _, _, _, _, _, _] := hM.pick [4, 0, 1, 2, 3, 5, 6] rfl
            refine s_storeSeg 0 hE rfl rfl hM rfl sz34 ((bv_length _).trans (nd_len ..)) (bv_one _) rfl ((bv_length _).trans (tgI_len hl_tg _)) rfl (by intro X h; cases h; rfl) ?_; intro w14 hM'; clear hM; have hM := hM'; clear hM'
            simp only [List.set_cons_zero, List.set_cons_succ] at hM
            refine q_nil (q_nx ?_)
            refine o_cut (fun _ => True) ?_
            refine o_re ?_
            refine o_weak (fun _ => False) (fun _ _ => trivial) ?_
            refine o_leaf rfl rfl ?_
            refine q_nil (q_ph (q_nil ?_))
            replace hE : Env a 83 [(1, _), (3, _), (5, _), (7, _), (9, _), (10, _), (11, _), (12, _), (13, _), (14, _), (15, _), (22, _), (31, _), (68, _)] := hE.sel [1, 3, 5, 7, 9, 10, 11, 12, 13, 14, 15, 22, 31, 68] rfl
            refine q_block_n ?_
            refine hK10 _ _ ?_
            refine wp_plain [true, true, true] rfl rfl ?_
            refine s_move hE rfl rfl ?_; clear hE a; intro a hE
            refine s_bin hE rfl rfl (show Bin _ _ _ _ _ (.int .i64 ((i + 1 : Nat) : Int)) from bin_add (by rw [wrap_i64 (by omega) (by omega)]; omega)) rfl ?_; clear hE a; intro a hE
            refine s_assign hE rfl rfl ?_; clear hE a; intro a hE
            refine q_nil ?_
            replace hE : Env a 83 [(1, _), (3, _), (5, _), (7, _), (9, _), (10, _), (11, _), (12, _), (13, _), (14, _), (15, _), (22, _), (31, _), (68, _)] := hE.sel [1, 3, 5, 7, 9, 10, 11, 12, 13, 14, 15, 22, 31, 68] rfl
            replace hE := hE.cast 12 rfl (show _ = Value.int .i64 (((2 ^ ps.length + q) / 2 ^ (i + 1) : Nat) : Int) from (by rw [path_getD hh hq (by omega)]))
            replace hE := hE.cast 13 rfl (show _ = Value.int .i64 (((i + 1) : Nat) : Int) from (congrArg _ (by omega)))
            replace hM := Mem.blkEq (ss := [bv (nd k ((pathZ ((ps.length : Nat) : Int) ((q : Nat) : Int)).getD i 0) (ps.getD i zSc))]) (ss' := [bv (tgI k (2 ^ ps.length + q) tg ps (i + 1))]) hM (by rw [path_getD hh hq (by omega)]; rfl)
            replace hM : Mem _ _ w14 [_, _, _, _, _] := hM.pick [0, 3, 4, 5, 6] rfl
            replace hM : Mem _ _ w14 [_, _, _, _, _] := hM.pick [1, 2, 0, 3, 4] rfl
            exact ⟨i + 1, ⟨by omega, mt_snoc hpre hyes, hE.sel [1, 3, 5, 7, 9, 10, 11, 12, 13, 22] rfl, hM⟩, by omega⟩
          trivial
        trivial
  · replace hE := hE'; clear hE'
    replace hb31 := of_decide_eq_false hb31
    replace hb31 : ¬ (i < ((pathZ ((ps.length : Nat) : Int) ((q : Nat) : Int)).length)) := by omega
    have hie : i = ps.length := by omega
    refine wp_cond_false (hE.eval rfl) ?_
    refine wp_exit ?_
    refine q_then_e ?_
    refine q_then_e ?_
    refine q_block_x ?_
    refine hK6 _ _ ?_
    refine wp_seq_k (fun K10 hK10 => ?_)
    refine wp_plain [true, true, true, true] rfl rfl ?_
    refine s_loadN hE rfl (hM.get 2 rfl) row34 rfl (by intro X h; cases h) rfl ?_; clear hE a; intro a hE
    refine s_loadN hE rfl (hM.get 1 rfl) row34 rfl (by intro X h; cases h) rfl ?_; clear hE a; intro a hE
    refine s_bin hE rfl rfl (eqa34 (tgI_len hl_tg _) hl_tp).1 rfl ?_; clear hE a; intro a hE
    refine s_assign hE rfl rfl ?_; clear hE a; intro a hE
    refine q_nil ?_
    replace hE : Env a 83 [(1, _), (3, _), (5, _), (7, _), (10, _), (11, _), (12, _), (13, _), (22, _), (31, _)] := hE.sel [1, 3, 5, 7, 10, 11, 12, 13, 22, 31] rfl
    refine hK10 _ _ ?_
    refine wp_ret ?_
    refine f_ret1 hE rfl rfl ?_
    exact ⟨(by rw [chkT_yes (fun j hj => hpre j (by omega)), hie]), hM.pick [] rfl⟩
theorem rcheck_no1 (k : List UInt8) (z : Int) (tg : List UInt8) (v : Value) (ps : List (List UInt8)) (c : Nat) (tp : List UInt8) (w : World) (hl_k : k.length = 32) (hl_tg : tg.length = 32) (hr_ps : (rd v 64 ps.length c (ps.flatMap bv)).holds w) (ho_ps : ∀ x, x ∈ ps → x.length = 64) (hl_tp : tp.length = 32) (hh : ¬ (1 ≤ ps.length ∧ ps.length ≤ 12)) : Calls Tryd.prog 18 #[.agg (bv k).toArray, .int .i64 z, .agg (bv tg).toArray, v, .agg (bv tp).toArray] w fun e w' => e = .returned (.bool false) ∧ Mem w [] w' [] := by
  have hM : Mem w [] w [rd v 64 ps.length c (ps.flatMap bv)] := Mem.startR w (fun g hg => by
    simp only [List.mem_cons, List.not_mem_nil, or_false] at hg
    rcases hg with rfl
    · exact ⟨hr_ps, rfl⟩)
  refine f_enter 83 Tryd.func18 rfl rfl rfl ?_
  intro a hE
  replace hE : Env a 83 [(0, _), (1, _), (2, _), (3, _), (4, _)] := hE
  refine wp_seq_k (fun K1 hK1 => ?_)
  refine wp_plain [false, false, false, true] rfl rfl ?_
  refine s_box (ss := [bv k]) [32] hE hM rfl (by simp [Value.cells]) (by simp [*]) rfl ?_; clear hE a; intro a b5 w1 hE hM'
  clear hM; have hM := hM'; clear hM'
  refine s_box (ss := [bv tg]) [32] hE hM rfl (by simp [Value.cells]) (by simp [*]) rfl ?_; clear hE a; intro a b7 w2 hE hM'
  clear hM; have hM := hM'; clear hM'
  refine s_box (ss := [bv tp]) [32] hE hM rfl (by simp [Value.cells]) (by simp [*]) rfl ?_; clear hE a; intro a b9 w3 hE hM'
  clear hM; have hM := hM'; clear hM'
  refine s_assign hE rfl rfl ?_; clear hE a; intro a hE
  refine q_nil ?_
  replace hE : Env a 83 [(1, _), (3, _), (5, _), (7, _), (9, _), (10, _)] := hE.sel [1, 3, 5, 7, 9, 10] rfl
  refine hK1 _ _ ?_
  refine wp_seq_k (fun K2 hK2 => ?_)
  refine wp_plain [true, true, true, false, true] rfl rfl ?_
  refine s_move hE rfl rfl ?_; clear hE a; intro a hE
  refine s_len hE rfl Tryd.underlying44 (rd_slice (hM.get 3 rfl)) rfl ?_; clear hE a; intro a hE
  refine s_move hE rfl rfl ?_; clear hE a; intro a hE
  refine s_call hE rfl Tryd.call20 (rpathI_c ((ps.length : Nat) : Int) z _) rfl ?_
  rintro e w4 ⟨v19, rfl, hN⟩
  refine ⟨_, rfl, trivial, ?_⟩; clear hE a; intro a hE
  replace hM : Mem _ _ w4 [_, _, _, _, _] := hM.call0 hN ⟨rfl, trivial⟩; clear hN
  replace hM := Mem.ownRowsEq (f := intC) (ls := pathZ ((ps.length : Nat) : Int) z) (ms := ([] : List Nat)) hM (pathZ_out1 (fun e => hh (by omega)))
  refine s_assign hE rfl rfl ?_; clear hE a; intro a hE
  refine q_nil ?_
  replace hE : Env a 83 [(1, _), (3, _), (5, _), (7, _), (9, _), (10, _), (11, _)] := hE.sel [1, 3, 5, 7, 9, 10, 11] rfl
  refine hK2 _ _ ?_
  refine wp_seq_k (fun K3 hK3 => ?_)
  refine wp_seq_k (fun K4 hK4 => ?_)
  refine wp_plain [true, true, true] rfl rfl ?_
  refine s_move hE rfl rfl ?_; clear hE a; intro a hE
  refine s_len hE rfl Tryd.underlying35 (own_slice (hM.get 0 rfl)) rfl ?_; clear hE a; intro a hE
  refine s_bin hE rfl rfl bin_eql rfl ?_; clear hE a; intro a hE
  refine q_nil ?_
  replace hE : Env a 83 [(1, _), (3, _), (5, _), (7, _), (9, _), (10, _), (11, _), (22, _)] := hE.sel [1, 3, 5, 7, 9, 10, 11, 22] rfl
  refine hK4 _ _ ?_
  replace hE := hE.cast 22 rfl (show _ = Value.bool true from (congrArg Value.bool (rfl)))
  refine wp_cond_true (hE.eval rfl) ?_
  refine wp_seq_k (fun K5 hK5 => ?_)
  refine wp_plain [true] rfl rfl ?_
  refine s_assign hE rfl rfl ?_; clear hE a; intro a hE
  refine q_nil ?_
  refine hK5 _ _ ?_
  refine wp_ret ?_
  refine q_then_r ?_
  refine f_ret1 hE rfl rfl ?_
  exact ⟨(by first | rfl | (simp; done)), hM.pick [] rfl⟩
theorem rcheck_no2 (k : List UInt8) (z : Int) (tg : List UInt8) (v : Value) (ps : List (List UInt8)) (c : Nat) (tp : List UInt8) (w : World) (hl_k : k.length = 32) (hl_tg : tg.length = 32) (hr_ps : (rd v 64 ps.length c (ps.flatMap bv)).holds w) (ho_ps : ∀ x, x ∈ ps → x.length = 64) (hl_tp : tp.length = 32) (hz : ¬ inN 0 (2 ^ ps.length) z) : Calls Tryd.prog 18 #[.agg (bv k).toArray, .int .i64 z, .agg (bv tg).toArray, v, .agg (bv tp).toArray] w fun e w' => e = .returned (.bool false) ∧ Mem w [] w' [] := by
  have hM : Mem w [] w [rd v 64 ps.length c (ps.flatMap bv)] := Mem.startR w (fun g hg => by
    simp only [List.mem_cons, List.not_mem_nil, or_false] at hg
    rcases hg with rfl
    · exact ⟨hr_ps, rfl⟩)
  refine f_enter 83 Tryd.func18 rfl rfl rfl ?_
  intro a hE
  replace hE : Env a 83 [(0, _), (1, _), (2, _), (3, _), (4, _)] := hE
  refine wp_seq_k (fun K1 hK1 => ?_)
  refine wp_plain [false, false, false, true] rfl rfl ?_
  refine s_box (ss := [bv k]) [32] hE hM rfl (by simp [Value.cells]) (by simp [*]) rfl ?_; clear hE a; intro a b5 w1 hE hM'
  clear hM; have hM := hM'; clear hM'
  refine s_box (ss := [bv tg]) [32] hE hM rfl (by simp [Value.cells]) (by simp [*]) rfl ?_; clear hE a; intro a b7 w2 hE hM'
  clear hM; have hM := hM'; clear hM'
  refine s_box (ss := [bv tp]) [32] hE hM rfl (by simp [Value.cells]) (by simp [*]) rfl ?_; clear hE a; intro a b9 w3 hE hM'
  clear hM; have hM := hM'; clear hM'
  refine s_assign hE rfl rfl ?_; clear hE a; intro a hE
  refine q_nil ?_
  replace hE : Env a 83 [(1, _), (3, _), (5, _), (7, _), (9, _), (10, _)] := hE.sel [1, 3, 5, 7, 9, 10] rfl
  refine hK1 _ _ ?_
  refine wp_seq_k (fun K2 hK2 => ?_)
  refine wp_plain [true, true, true, false, true] rfl rfl ?_
  refine s_move hE rfl rfl ?_; clear hE a; intro a hE
  refine s_len hE rfl Tryd.underlying44 (rd_slice (hM.get 3 rfl)) rfl ?_; clear hE a; intro a hE
  refine s_move hE rfl rfl ?_; clear hE a; intro a hE
  refine s_call hE rfl Tryd.call20 (rpathI_c ((ps.length : Nat) : Int) z _) rfl ?_
  rintro e w4 ⟨v19, rfl, hN⟩
  refine ⟨_, rfl, trivial, ?_⟩; clear hE a; intro a hE
  replace hM : Mem _ _ w4 [_, _, _, _, _] := hM.call0 hN ⟨rfl, trivial⟩; clear hN
  replace hM := Mem.ownRowsEq (f := intC) (ls := pathZ ((ps.length : Nat) : Int) z) (ms := ([] : List Nat)) hM (pathZ_out2 hz)
  refine s_assign hE rfl rfl ?_; clear hE a; intro a hE
  refine q_nil ?_
  replace hE : Env a 83 [(1, _), (3, _), (5, _), (7, _), (9, _), (10, _), (11, _)] := hE.sel [1, 3, 5, 7, 9, 10, 11] rfl
  refine hK2 _ _ ?_
  refine wp_seq_k (fun K3 hK3 => ?_)
  refine wp_seq_k (fun K4 hK4 => ?_)
  refine wp_plain [true, true, true] rfl rfl ?_
  refine s_move hE rfl rfl ?_; clear hE a; intro a hE
  refine s_len hE rfl Tryd.underlying35 (own_slice (hM.get 0 rfl)) rfl ?_; clear hE a; intro a hE
  refine s_bin hE rfl rfl bin_eql rfl ?_; clear hE a; intro a hE
  refine q_nil ?_
  replace hE : Env a 83 [(1, _), (3, _), (5, _), (7, _), (9, _), (10, _), (11, _), (22, _)] := hE.sel [1, 3, 5, 7, 9, 10, 11, 22] rfl
  refine hK4 _ _ ?_
  replace hE := hE.cast 22 rfl (show _ = Value.bool true from (congrArg Value.bool (rfl)))
  refine wp_cond_true (hE.eval rfl) ?_
  refine wp_seq_k (fun K5 hK5 => ?_)
  refine wp_plain [true] rfl rfl ?_
  refine s_assign hE rfl rfl ?_; clear hE a; intro a hE
  refine q_nil ?_
  refine hK5 _ _ ?_
  refine wp_ret ?_
  refine q_then_r ?_
  refine f_ret1 hE rfl rfl ?_
  exact ⟨(by first | rfl | (simp; done)), hM.pick [] rfl⟩
theorem rcheckI_c (k : List UInt8) (z : Int) (tg : List UInt8) (v : Value) (ps : List (List UInt8)) (c : Nat) (tp : List UInt8) (w : World) (hl_k : k.length = 32) (hl_tg : tg.length = 32) (hr_ps : (rd v 64 ps.length c (ps.flatMap bv)).holds w) (ho_ps : ∀ x, x ∈ ps → x.length = 64) (hl_tp : tp.length = 32) : Calls Tryd.prog 18 #[.agg (bv k).toArray, .int .i64 z, .agg (bv tg).toArray, v, .agg (bv tp).toArray] w fun e w' => e = .returned (.bool (chkZ k z tg ps tp)) ∧ Mem w [] w' [] := by
  by_cases hh : 1 ≤ ps.length ∧ ps.length ≤ 12
  · have hpw := two_pow_le hh
    by_cases hz : inN 0 (2 ^ ps.length) z
    · obtain ⟨q, rfl⟩ : ∃ q : Nat, z = (q : Int) := ⟨z.toNat, by omega⟩
      rw [chkZ_in hh hz]
      exact rcheck_c k q tg v ps c tp w hl_k hl_tg hr_ps ho_ps hl_tp hh (by omega)
    · rw [chkZ_out2 hz]
      exact rcheck_no2 k z tg v ps c tp w hl_k hl_tg hr_ps ho_ps hl_tp hz
  · rw [chkZ_out1 hh]
    exact rcheck_no1 k z tg v ps c tp w hl_k hl_tg hr_ps ho_ps hl_tp hh
end Go.Proofs.YtacebdngbalkmaaDoor
