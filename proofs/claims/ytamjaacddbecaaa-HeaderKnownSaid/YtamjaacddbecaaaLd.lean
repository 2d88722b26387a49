/- Walks of functions of the given program that the claim reaches. -/
import Derived.Test.YtamjaacddbecaaaLc
set_option linter.unusedSimpArgs false
set_option linter.unusedVariables false
namespace Go.Proofs.Ytamjaacddbecaaa
open Go Go.Kx
theorem zero29 : Zero Try.prog 29 [bv (List.replicate 32 0), bv (List.replicate 32 0)] := ⟨.agg ([bv (List.replicate 32 0), bv (List.replicate 32 0)] : List (List Value)).flatten.toArray, by kernel_rfl, by kernel_rfl⟩
theorem sz29 : (Try.prog.info? 29).map (·.size) = some 64 := by kernel_rfl
theorem zeroL29 : Zero Try.prog 29 [bv (List.replicate 32 0), bv (List.replicate 32 0)] := ⟨.agg ([bv (List.replicate 32 0), bv (List.replicate 32 0)] : List (List Value)).flatten.toArray, by kernel_rfl, by kernel_rfl⟩
theorem zeroL39 : Zero Try.prog 39 [[.int .i64 0], [.int .i64 0], [.bool false], [.int .u64 0], bv (List.replicate 32 0), bv (List.replicate 32 0), [.bool false], [.int .u64 0], bv (List.replicate 32 0), bv (List.replicate 32 0), [.bool false], [.int .i64 0], bv (List.replicate 16 0), bv (List.replicate 32 0), bv (List.replicate 32 0), [.bool false], [.int .i64 0], bv (List.replicate 16 0), bv (List.replicate 32 0), bv (List.replicate 32 0), [.bool false], [.int .i64 0], bv (List.replicate 16 0), bv (List.replicate 32 0), bv (List.replicate 32 0), [.bool false], [.int .i64 0], bv (List.replicate 16 0), bv (List.replicate 32 0), bv (List.replicate 32 0)] := ⟨.agg ([[.int .i64 0], [.int .i64 0], [.bool false], [.int .u64 0], bv (List.replicate 32 0), bv (List.replicate 32 0), [.bool false], [.int .u64 0], bv (List.replicate 32 0), bv (List.replicate 32 0), [.bool false], [.int .i64 0], bv (List.replicate 16 0), bv (List.replicate 32 0), bv (List.replicate 32 0), [.bool false], [.int .i64 0], bv (List.replicate 16 0), bv (List.replicate 32 0), bv (List.replicate 32 0), [.bool false], [.int .i64 0], bv (List.replicate 16 0), bv (List.replicate 32 0), bv (List.replicate 32 0), [.bool false], [.int .i64 0], bv (List.replicate 16 0), bv (List.replicate 32 0), bv (List.replicate 32 0)] : List (List Value)).flatten.toArray, by kernel_rfl, by kernel_rfl⟩
theorem zero23 : Zero Try.prog 23 [[.int .i64 0], [.int .i64 0]] := ⟨.agg ([[.int .i64 0], [.int .i64 0]] : List (List Value)).flatten.toArray, by kernel_rfl, by kernel_rfl⟩
theorem fpl23 : fldPl Try.prog 23 = some (plc 0 [1, 1]) := by kernel_rfl
theorem zero39 : Zero Try.prog 39 [([.int .i64 0]) ++ ([.int .i64 0]), (List.replicate 2 (([.bool false]) ++ ([.int .u64 0]) ++ ((bv (List.replicate 32 0)) ++ (bv (List.replicate 32 0))))).flatten, (List.replicate 4 (([.bool false]) ++ ([.int .i64 0]) ++ (bv (List.replicate 16 0)) ++ ((bv (List.replicate 32 0)) ++ (bv (List.replicate 32 0))))).flatten] := ⟨.agg ([([.int .i64 0]) ++ ([.int .i64 0]), (List.replicate 2 (([.bool false]) ++ ([.int .u64 0]) ++ ((bv (List.replicate 32 0)) ++ (bv (List.replicate 32 0))))).flatten, (List.replicate 4 (([.bool false]) ++ ([.int .i64 0]) ++ (bv (List.replicate 16 0)) ++ ((bv (List.replicate 32 0)) ++ (bv (List.replicate 32 0))))).flatten] : List (List Value)).flatten.toArray, by kernel_rfl, by kernel_rfl⟩
theorem fpl39 : fldPl Try.prog 39 = some (plc 0 [2, 132, 328]) := by kernel_rfl
theorem sz39 : (Try.prog.info? 39).map (·.size) = some 462 := by kernel_rfl
theorem arr32 : arrT Try.prog 32 = some (2, 66) := by kernel_rfl
theorem arr37 : arrT Try.prog 37 = some (4, 82) := by kernel_rfl
theorem boxget_c (v : Value) (bs : List UInt8) (c : Nat) (w : World) (hr_bs : (rd v 1 bs.length c (bv bs)).holds w) (hl : 64 ≤ bs.length) (hb : bs.length ≤ 140737488355328) : Calls Try.prog 51 #[v] w fun e w' => ∃ v', e = .returned (.tuple #[.agg ([bv (bs.take 32), bv ((bs.drop 32).take 32)] : List (List Value)).flatten.toArray, v', .int .i64 0]) ∧ Mem w [] w' [own v' 1 (bs.drop 64).length (bv (bs.drop 64))] := by
  have hM : Mem w [] w [rd v 1 bs.length c (bv bs)] := Mem.startR w (fun g hg => by
    simp only [List.mem_cons, List.not_mem_nil, or_false] at hg
    rcases hg with rfl
    · exact ⟨hr_bs, rfl⟩)
  refine f_enter 23 Try.func51 rfl rfl rfl ?_
  intro a hE
  replace hE : Env a 23 [(0, _)] := hE
  refine wp_seq_k (fun K1 hK1 => ?_)
  refine wp_plain [false, true, true] rfl rfl ?_
  refine s_alloc [32, 32] hE hM zero29 rfl rfl ?_; clear hE a; intro a b2 w1 hE hM'
  clear hM; have hM := hM'; clear hM'
  refine s_assign hE rfl rfl ?_; clear hE a; intro a hE
  refine s_assign hE rfl rfl ?_; clear hE a; intro a hE
  refine q_nil ?_
  refine hK1 _ _ ?_
  refine wp_seq_k (fun K2 hK2 => ?_)
  refine wp_seq_k (fun K3 hK3 => ?_)
  refine wp_plain [true, true, true] rfl rfl ?_
  refine s_move hE rfl rfl ?_; clear hE a; intro a hE
  refine s_len hE rfl Try.underlying55 (rd_slice (hM.get 1 rfl)) rfl ?_; clear hE a; intro a hE
  refine s_bin hE rfl rfl bin_lss rfl ?_; clear hE a; intro a hE
  refine q_nil ?_
  replace hE : Env a 23 [(0, _), (2, _), (3, _), (4, _), (8, _)] := hE.sel [0, 2, 3, 4, 8] rfl
  refine hK3 _ _ ?_
  replace hE := hE.cast 8 rfl (show _ = Value.bool false from (congrArg Value.bool (decide_eq_false (by omega))))
  refine wp_cond_false (hE.eval rfl) ?_
  refine wp_skip ?_
  refine hK2 _ _ ?_
  refine wp_seq_k (fun K4 hK4 => ?_)
  refine wp_plain [false] rfl rfl ?_
  refine s_alloc [32, 32] hE hM zero29 rfl rfl ?_; clear hE a; intro a b5 w2 hE hM'
  clear hM; have hM := hM'; clear hM'
  refine q_nil ?_
  refine hK4 _ _ ?_
  refine wp_seq_k (fun K5 hK5 => ?_)
  refine wp_plain [true, true, true, false] rfl rfl ?_
  refine s_fieldAddr hE rfl fo29_0 rfl ?_; clear hE a; intro a hE
  refine s_sliceArr (l := 0) (h := 32) (mx' := 32) hE rfl arr26 rfl rfl rfl (by simp) (by omega) (by omega) (by omega) rfl ?_; clear hE a; intro a hE
  replace hE := hE.cast 11 rfl (show _ = Value.slice (some ⟨b5, 0, none⟩) 32 32 from rfl)
  refine s_move hE rfl rfl ?_; clear hE a; intro a hE
  refine s_copySegN 0 hE rfl rfl hM (hM.get 2 rfl) (by first | omega | (simp; omega)) (bv_one _) sl55 rfl ((bv_length _).trans (by first | (simp; done) | (simp [*]; done) | (simp; omega))) rfl (by intro X h; cases h) rfl ?_; clear hE a; intro a w4 hE hM'; clear hM; have hM := hM'; clear hM'
  simp only [List.set_cons_zero, List.set_cons_succ, bv_take] at hM
  refine q_nil ?_
  replace hE : Env a 23 [(0, _), (2, _), (3, _), (4, _), (5, _), (8, _)] := hE.sel [0, 2, 3, 4, 5, 8] rfl
  refine hK5 _ _ ?_
  refine wp_seq_k (fun K6 hK6 => ?_)
  refine wp_treeM hM (by kernel_rfl) (fun _ => True) (fun _ => True) (.re [(0, true), (1, true), (2, true), (3, true), (4, false)] (.fl 4 (.fl 0 (.weak (.or 4 (.cut (.re [] (.weak (.leaf 0)))) (.stop)))))) [(0, true), (1, true), (2, true), (3, true), (4, false)] [(0, [(1, 0), (4, 1)]), (1, [(4, 1)]), (3, [(4, 3)]), (4, [])] (by kernel_rfl) ?_
  intro w5 hM' hww5; clear hM; have hM := hM'; clear hM'
  refine o_re ?_
  refine o_fl rfl ?_
  refine s_fieldAddr hE rfl fo29_1 rfl ?_; clear hE a; intro a hE
  refine s_sliceArr (l := 0) (h := 32) (mx' := 32) hE rfl arr27 rfl rfl rfl (by simp) (by omega) (by omega) (by omega) rfl ?_; clear hE a; intro a hE
  replace hE := hE.cast 15 rfl (show _ = Value.slice (some ⟨b5, 32, none⟩) 32 32 from rfl)
  refine s_move hE rfl rfl ?_; clear hE a; intro a hE
  have hcap17 := rd_len (hM.get 2 rfl)
  refine s_slice (l := 32) (h := bs.length) (mx' := c) hE rfl (hM.get 2 rfl) slt55 ⟨_, rfl⟩ rfl rfl (by simp) (by first | omega | assumption | (simp; done) | (simp; omega) | decide) (by first | omega | assumption | (simp; done) | (simp; omega) | decide) (by first | omega | assumption | (simp; done) | (simp; omega) | decide) (by first | omega | assumption | (simp; done) | (simp; omega) | decide) rfl ?_; clear hE a; intro a v17 hE hr17 hvb17
  replace hr17 : (rd v17 1 (bs.drop 32).length (c - 32) (bv (bs.drop 32))).holds _ := rd_drop rfl (by first | omega | assumption | (simp; done) | (simp; omega) | decide) hr17
  replace hM := hM.addPart 2 rfl hr17 hvb17; clear hr17
  refine q_nil (q_nx ?_)
  refine o_fl rfl ?_
  refine q_nil (q_nx ?_)
  refine o_weak (fun b => b = b5) (fun _ _ => trivial) ?_
  refine o_or rfl ?_ ?_
  · replace hM : Mem _ _ w5 [_, _, _, _] := hM.pick [1, 0, 2, 3] rfl
    refine s_copySegN 1 hE rfl rfl hM (hM.get 1 rfl) (by have hl_ : (bs.drop 32).length = bs.length - 32 := (by first | (simp only [List.length_take, List.length_drop]; omega) | (simp; try omega)); first | omega | (simp; omega)) (bv_one _) sl55 rfl ((bv_length _).trans (by first | (simp; done) | (simp [*]; done) | (simp; omega))) rfl (by intro X h; cases h; rfl) rfl ?_; clear hE a; intro a w7 hE hM'; clear hM; have hM := hM'; clear hM'
    simp only [List.set_cons_zero, List.set_cons_succ, bv_take] at hM
    refine q_nil (q_nx ?_)
    refine o_cut (fun _ => True) ?_
    refine o_re ?_
    refine o_weak (fun _ => False) (fun _ _ => trivial) ?_
    refine o_leaf rfl rfl ?_
    refine q_nil (q_ph (q_nil ?_))
    replace hE : Env a 23 [(0, _), (2, _), (3, _), (4, _), (5, _), (8, _)] := hE.sel [0, 2, 3, 4, 5, 8] rfl
    refine hK6 _ _ ?_
    refine wp_seq_k (fun K7 hK7 => ?_)
    refine wp_treeM hM (by kernel_rfl) (fun _ => True) (fun _ => True) (.re [(1, true), (2, true), (0, true), (3, false), (4, false), (5, true), (6, true)] (.fl 2 (.weak (.fl 1 (.or 3 (.cut (.re [(4, false), (5, true), (6, true)] (.fl 0 (.fl 0 (.weak (.or 4 (.cut (.re [(5, true), (6, true)] (.weak (.leaf 2)))) (.stop))))))) (.stop)))))) [(1, true), (2, true), (0, true), (3, false), (4, false), (5, true), (6, true)] [(0, [(4, 0), (5, 0), (6, 0)]), (2, [(3, 2), (4, 3), (5, 2), (6, 2)]), (3, [(4, 3), (5, 3), (6, 3)]), (4, [(5, 4), (6, 4)])] (by kernel_rfl) ?_
    intro w8 hM' hww8; clear hM; have hM := hM'; clear hM'
    refine o_re ?_
    refine o_fl rfl ?_
    refine s_move hE rfl rfl ?_; clear hE a; intro a hE
    have hcap21 := rd_len (hM.get 3 rfl)
    refine s_slice (l := 64) (h := bs.length) (mx' := c) hE rfl (hM.get 3 rfl) slt55 ⟨_, rfl⟩ rfl rfl (by simp) (by first | omega | assumption | (simp; done) | (simp; omega) | decide) (by first | omega | assumption | (simp; done) | (simp; omega) | decide) (by first | omega | assumption | (simp; done) | (simp; omega) | decide) (by first | omega | assumption | (simp; done) | (simp; omega) | decide) rfl ?_; clear hE a; intro a v21 hE hr21 hvb21
    replace hr21 : (rd v21 1 (bs.drop 64).length (c - 64) (bv (bs.drop 64))).holds _ := rd_drop rfl (by first | omega | assumption | (simp; done) | (simp; omega) | decide) hr21
    replace hM := hM.addPart 3 rfl hr21 hvb21; clear hr21
    refine q_nil (q_nx ?_)
    refine o_weak (fun _ => False) (fun _ _ => trivial) ?_
    refine o_fl rfl ?_
    refine s_loadN hE rfl (hM.get 1 rfl) row29 rfl (by intro X h; cases h; simp) rfl ?_; clear hE a; intro a hE
    replace hE := hE.cast 19 rfl (show _ = Value.agg ([bv (bs.take 32), bv ((bs.drop 32).take 32)] : List (List Value)).flatten.toArray from (by first | rfl | simp))
    refine q_nil (q_nx ?_)
    refine o_or rfl ?_ ?_
    · refine s_call hE rfl Try.call44 (clone_c (bs.drop 64) _ _ _ (hM.get 0 rfl) (by have hl_ : (bs.drop 64).length = bs.length - 64 := (by first | (simp only [List.length_take, List.length_drop]; omega) | (simp; try omega)); first | omega | (simp; omega))) rfl ?_
      rintro e w9 ⟨v22, rfl, hN⟩
      refine ⟨_, rfl, hN.sta0 _, ?_⟩; clear hE a; intro a hE
      replace hM : Mem _ _ w9 [_, _, _, _, _, _] := hM.call0 hN ⟨rfl, trivial⟩; clear hN
      refine q_nil (q_nx ?_)
      refine o_cut (fun _ => True) ?_
      refine o_re ?_
      refine o_fl rfl ?_
      refine q_nil (q_nx ?_)
      refine o_fl rfl ?_
      refine q_nil (q_nx ?_)
      refine o_weak (fun b => b = b2) (fun _ _ => trivial) ?_
      refine o_or rfl ?_ ?_
      · replace hM : Mem _ _ w9 [_, _, _, _, _, _] := hM.pick [4, 0, 1, 2, 3, 5] rfl
        refine s_storeSegs 0 2 (vss := [bv (bs.take 32), bv ((bs.drop 32).take 32)]) hE rfl rfl hM rfl sz29 (by have hl_s0 : (bs.take 32).length = 32 := (by simp; omega); have hl_s1 : ((bs.drop 32).take 32).length = 32 := (by have hl_q : (bs.drop 32).length = bs.length - 32 := (by first | (simp only [List.length_take, List.length_drop]; omega) | (simp; try omega)); simp; omega);  simp only [List.map_cons, List.map_nil, bv_length, List.length_cons, List.length_nil, List.take_succ_cons, List.take_zero, List.drop_zero, List.drop_succ_cons, hl_s0, hl_s1]) (by decide) rfl (one_fl ⟨bv_one _, bv_one _, trivial⟩) rfl (by intro X h; cases h; rfl) ?_; intro w10 hM'; clear hM; have hM := hM'; clear hM'
        simp only [List.take_zero, List.take_succ_cons, List.drop_zero, List.drop_succ_cons, List.take_nil, List.drop_nil, List.nil_append, List.append_nil, List.cons_append] at hM
        refine q_nil (q_nx ?_)
        refine o_cut (fun _ => True) ?_
        refine o_re ?_
        refine o_weak (fun _ => False) (fun _ _ => trivial) ?_
        refine o_leaf rfl rfl ?_
        refine s_assign hE rfl rfl ?_; clear hE a; intro a hE
        refine s_assign hE rfl rfl ?_; clear hE a; intro a hE
        refine q_nil (q_ph (q_nil ?_))
        replace hE : Env a 23 [(0, _), (2, _), (3, _), (4, _), (5, _), (8, _)] := hE.sel [0, 2, 3, 4, 5, 8] rfl
        refine hK7 _ _ ?_
        refine wp_ret ?_
        refine f_ret3 hE rfl (res_cellN rfl (hM.get 0 rfl) row29 rfl) rfl rfl ?_
        replace hM : Mem _ _ w10 [_, _, _, _, _, _] := hM.pick [1, 0, 2, 3, 4, 5] rfl
        exact ⟨_, (by first | rfl | (simp; done)), hM.pick [0] rfl⟩
      trivial
    trivial
  trivial
theorem hwrapped_c (tb : Nat) (bb : List Nat) (bs : List UInt8) (w : World) (hT : (tap tb bb bs false 88).holds w) (hl : 64 ≤ bs.length) (hb : bs.length ≤ 140737488355328) : Calls Try.prog 43 #[.pointer (some ⟨tb, 0, none⟩)] w fun e w' => e = .returned (.agg ([bv (bs.take 32), bv ((bs.drop 32).take 32)] : List (List Value)).flatten.toArray) ∧ Mem w [tb] w' [tap tb bb (bs.drop 64) false 88] := by
  have hM := Mem.startT hT
  refine f_enter 14 Try.func43 rfl rfl rfl ?_
  intro a hE
  replace hE : Env a 14 [(0, _)] := hE
  refine wp_seq_k (fun K1 hK1 => ?_)
  refine wp_plain [false] rfl rfl ?_
  refine s_alloc [32, 32] hE hM zeroL29 rfl rfl ?_; clear hE a; intro a b2 w1 hE hM'
  clear hM; have hM := hM'; clear hM'
  refine q_nil ?_
  refine hK1 _ _ ?_
  refine wp_seq_k (fun K2 hK2 => ?_)
  refine wp_plain [true, false, false, true, true, true, true, false, false, true, true] rfl rfl ?_
  refine s_move hE rfl rfl ?_; clear hE a; intro a hE
  replace hM : Mem _ _ w1 [_, _] := hM.pick [1, 0] rfl
  have hlt8_1 : (bs.take 64).length = 64 := (by simp; try omega)
  refine s_call hE rfl Try.call41 (tapBytes_ok tb bb bs 64 _ (hM.get 0 rfl) (by first | omega | (simp; done) | (simp; omega))) rfl ?_
  rintro e w2 ⟨v8, rfl, hvt8_1, hN⟩
  refine ⟨_, rfl, trivial, ?_⟩; clear hE a; intro a hE
  replace hM : Mem _ _ w2 [_, _, _] := hM.call1 hN (fun f hf x hx => (List.mem_cons.1 hf).elim (fun h => by subst h; exact .inl (hvt8_1 x (by first | exact hx | (rw [hlt8_1] at hx; exact hx)))) (fun h => by rw [List.mem_singleton.1 h] at hx; exact .inl hx)); clear hN
  have hLb1 : ((bs.take 64).drop 64).length = 64 - 64 := (by have hl_q : (bs.take 64).length = 64 := hlt8_1; first | (simp only [List.length_take, List.length_drop]; omega) | (simp; try omega))
  refine s_call hE rfl Try.call51 (boxget_c _ (bs.take 64) _ _ (hM.get 0 rfl) (by have hl_0 : (bs.take 64).length = 64 := hlt8_1; first | omega | assumption | (simp; done) | (simp; omega) | decide) (by have hl_0 : (bs.take 64).length = 64 := hlt8_1; first | omega | assumption | (simp; done) | (simp; omega) | decide)) rfl ?_
  rintro e w3 ⟨v9_1, rfl, hN⟩
  refine ⟨_, rfl, trivial, ?_⟩; clear hE a; intro a hE
  replace hM : Mem _ _ w3 [_, _, _, _] := hM.call0 hN ⟨rfl, trivial⟩; clear hN
  refine s_move hE rfl rfl ?_; clear hE a; intro a hE
  refine s_extract hE rfl rfl rfl ?_; clear hE a; intro a hE
  refine s_extract hE rfl rfl rfl ?_; clear hE a; intro a hE
  refine s_extract hE rfl rfl rfl ?_; clear hE a; intro a hE
  refine s_alloc [32, 32] hE hM zeroL29 rfl rfl ?_; clear hE a; intro a b3 w4 hE hM'
  clear hM; have hM := hM'; clear hM'
  have hsl30_0 : ((bs.take 64).take 32).length = 32 := (by first | (simp; done) | (simp [*]; done) | (simp; omega))
  have hsl30_1 : (((bs.take 64).drop 32).take 32).length = 32 := (by first | (simp; done) | (simp [*]; done) | (simp; omega))
  refine s_storeSegs 0 2 (vss := [bv ((bs.take 64).take 32), bv (((bs.take 64).drop 32).take 32)]) hE rfl rfl hM rfl sz29 (by simp only [List.take_succ_cons, List.take_zero, List.drop_zero, List.drop_succ_cons]; simp only [List.map_cons, List.map_nil, bv_length, List.length_cons, List.length_nil, List.length_replicate, hsl30_0, hsl30_1]) (by decide) rfl (one_fl ⟨bv_one _, bv_one _, trivial⟩) rfl (by intro X h; cases h) ?_; intro w5 hM'; clear hM; have hM := hM'; clear hM'
  try simp only [List.take_zero, List.take_succ_cons, List.drop_zero, List.drop_succ_cons, List.take_nil, List.drop_nil, List.nil_append, List.append_nil, List.cons_append] at hM
  refine s_assign hE rfl rfl ?_; clear hE a; intro a hE
  refine s_assign hE rfl rfl ?_; clear hE a; intro a hE
  refine q_nil ?_
  replace hE : Env a 14 [(2, _), (3, _)] := hE.sel [2, 3] rfl
  refine hK2 _ _ ?_
  refine wp_seq_k (fun K3 hK3 => ?_)
  refine wp_plain [true, false] rfl rfl ?_
  refine s_loadN hE rfl (hM.get 0 rfl) row29 rfl (by intro X h; cases h) rfl ?_; clear hE a; intro a hE
  replace hE := hE.cast 13 rfl (show _ = Value.agg ([bv ((bs.take 64).take 32), bv (((bs.take 64).drop 32).take 32)] : List (List Value)).flatten.toArray from (by first | rfl | simp only [List.flatten_cons, List.flatten_nil, List.append_nil, List.append_assoc]))
  have hsl43_0 : ((bs.take 64).take 32).length = 32 := (by first | (simp; done) | (simp [*]; done) | (simp; omega))
  have hsl43_1 : (((bs.take 64).drop 32).take 32).length = 32 := (by first | (simp; done) | (simp [*]; done) | (simp; omega))
  replace hM : Mem _ _ w5 [_, _, _, _, _] := hM.pick [4, 0, 1, 2, 3] rfl
  refine s_storeSegs 0 2 (vss := [bv ((bs.take 64).take 32), bv (((bs.take 64).drop 32).take 32)]) hE rfl rfl hM rfl sz29 (by simp only [List.take_succ_cons, List.take_zero, List.drop_zero, List.drop_succ_cons]; simp only [List.map_cons, List.map_nil, bv_length, List.length_cons, List.length_nil, List.length_replicate, hsl43_0, hsl43_1]) (by decide) rfl (one_fl ⟨bv_one _, bv_one _, trivial⟩) rfl (by intro X h; cases h) ?_; intro w6 hM'; clear hM; have hM := hM'; clear hM'
  try simp only [List.take_zero, List.take_succ_cons, List.drop_zero, List.drop_succ_cons, List.take_nil, List.drop_nil, List.nil_append, List.append_nil, List.cons_append] at hM
  refine q_nil ?_
  replace hE : Env a 14 [(2, _), (3, _)] := hE.sel [2, 3] rfl
  refine hK3 _ _ ?_
  refine wp_ret ?_
  refine f_ret1 hE rfl (res_cellN rfl (hM.get 0 rfl) row29 rfl) ?_
  replace hM : Mem _ _ w6 [_, _, _, _, _] := hM.pick [4, 0, 1, 2, 3] rfl
  exact ⟨(by simp [List.take_take, List.drop_take]), hM.pick [0] rfl⟩
set_option maxRecDepth 20000 in
set_option maxHeartbeats 2000000 in
theorem hread_c (tb : Nat) (bb : List Nat) (bs : List UInt8) (w : World) (hT : (tap tb bb bs false 88).holds w) (hl : 496 ≤ bs.length) (hb : bs.length ≤ 140737488355000) : Calls Try.prog 27 #[.pointer (some ⟨tb, 0, none⟩)] w fun e w' => e = .returned (.agg ([[.int .i64 ((readH bs).m)], [.int .i64 ((readH bs).r)], [.bool ((readH bs).v0.1)], [.int .u64 (((readH bs).v0.2.1 : Nat) : Int)], bv ((readH bs).v0.2.2.1), bv ((readH bs).v0.2.2.2), [.bool ((readH bs).v1.1)], [.int .u64 (((readH bs).v1.2.1 : Nat) : Int)], bv ((readH bs).v1.2.2.1), bv ((readH bs).v1.2.2.2), [.bool ((readH bs).s0.1)], [.int .i64 ((readH bs).s0.2.1)], bv ((readH bs).s0.2.2.1), bv ((readH bs).s0.2.2.2.1), bv ((readH bs).s0.2.2.2.2), [.bool ((readH bs).s1.1)], [.int .i64 ((readH bs).s1.2.1)], bv ((readH bs).s1.2.2.1), bv ((readH bs).s1.2.2.2.1), bv ((readH bs).s1.2.2.2.2), [.bool ((readH bs).s2.1)], [.int .i64 ((readH bs).s2.2.1)], bv ((readH bs).s2.2.2.1), bv ((readH bs).s2.2.2.2.1), bv ((readH bs).s2.2.2.2.2), [.bool ((readH bs).s3.1)], [.int .i64 ((readH bs).s3.2.1)], bv ((readH bs).s3.2.2.1), bv ((readH bs).s3.2.2.2.1), bv ((readH bs).s3.2.2.2.2)] : List (List Value)).flatten.toArray) ∧ Mem w [tb] w' [tap tb bb (bs.drop 496) false 88] := by
  have hM := Mem.startT hT
  have hv8 := val1 (l := (bs.drop 8).take 1) (by simp; omega)
  have hv9 := val1 (l := (bs.drop 9).take 1) (by simp; omega)
  have hv11 := val8 (l := (bs.drop 11).take 8) (by simp; omega)
  have hv84 := val8 (l := (bs.drop 84).take 8) (by simp; omega)
  have hv157 := val4 (l := (bs.drop 157).take 4) (by simp; omega)
  have hv242 := val4 (l := (bs.drop 242).take 4) (by simp; omega)
  have hv327 := val4 (l := (bs.drop 327).take 4) (by simp; omega)
  have hv412 := val4 (l := (bs.drop 412).take 4) (by simp; omega)
  refine f_enter 56 Try.func27 rfl rfl rfl ?_
  intro a hE
  replace hE : Env a 56 [(0, _)] := hE
  refine wp_seq_k (fun K1 hK1 => ?_)
  refine wp_plain [false] rfl rfl ?_
  refine s_alloc [1, 1, 1, 1, 32, 32, 1, 1, 32, 32, 1, 1, 16, 32, 32, 1, 1, 16, 32, 32, 1, 1, 16, 32, 32, 1, 1, 16, 32, 32] hE hM zeroL39 rfl rfl ?_; clear hE a; intro a b2 w1 hE hM'
  clear hM; have hM := hM'; clear hM'
  refine q_nil ?_
  refine hK1 _ _ ?_
  refine wp_seq_k (fun K2 hK2 => ?_)
  refine wp_plain [true, false] rfl rfl ?_
  refine s_move hE rfl rfl ?_; clear hE a; intro a hE
  replace hM : Mem _ _ w1 [_, _] := hM.pick [1, 0] rfl
  have hlt8_1 : (bs.take 8).length = 8 := (by simp; try omega)
  refine s_call hE rfl Try.call41 (tapBytes_ok tb bb bs 8 _ (hM.get 0 rfl) (by first | omega | (simp; done) | (simp; omega))) rfl ?_
  rintro e w2 ⟨v8, rfl, hvt8_1, hN⟩
  refine ⟨_, rfl, trivial, ?_⟩; clear hE a; intro a hE
  replace hM : Mem _ _ w2 [_, _, _] := hM.call1 hN (fun f hf x hx => (List.mem_cons.1 hf).elim (fun h => by subst h; exact .inl (hvt8_1 x (by first | exact hx | (rw [hlt8_1] at hx; exact hx)))) (fun h => by rw [List.mem_singleton.1 h] at hx; exact .inl hx)); clear hN
  refine q_nil ?_
  replace hE : Env a 56 [(0, _), (2, _)] := hE.sel [0, 2] rfl
  refine hK2 _ _ ?_
  refine wp_seq_k (fun K3 hK3 => ?_)
  refine wp_plain [true, false, true, true, false, true, true, true, false, false] rfl rfl ?_
  refine s_move hE rfl rfl ?_; clear hE a; intro a hE
  replace hM : Mem _ _ w2 [_, _, _] := hM.pick [1, 0, 2] rfl
  refine s_call hE rfl Try.call42 (tapNum_ok tb bb (bs.drop 8) 1 _ (hM.get 0 rfl) rfl (by have hl_ : (bs.drop 8).length = bs.length - 8 := (by simp; try omega); first | omega | (simp; done) | (simp; omega))) rfl ?_
  rintro e w3 ⟨rfl, hN⟩
  refine ⟨_, rfl, trivial, ?_⟩; clear hE a; intro a hE
  replace hM : Mem _ _ w3 [_, _, _] := hM.call1 hN (fun f hf x hx => by rw [List.mem_singleton.1 hf] at hx; exact .inl hx); clear hN
  replace hM := hM.tapEq (q := bs.drop 9) (by first | (rw [List.drop_drop]; done) | (rw [List.drop_drop]; congr 1; omega))
  refine s_conv hE rfl (cnv_int Try.underlying24 Try.underlying3 (wrap_i64 (by omega) (by omega))) rfl ?_; clear hE a; intro a hE
  refine s_move hE rfl rfl ?_; clear hE a; intro a hE
  refine s_call hE rfl Try.call42 (tapNum_ok tb bb (bs.drop 9) 1 _ (hM.get 0 rfl) rfl (by have hl_ : (bs.drop 9).length = bs.length - 9 := (by simp; try omega); first | omega | (simp; done) | (simp; omega))) rfl ?_
  rintro e w4 ⟨rfl, hN⟩
  refine ⟨_, rfl, trivial, ?_⟩; clear hE a; intro a hE
  replace hM : Mem _ _ w4 [_, _, _] := hM.call1 hN (fun f hf x hx => by rw [List.mem_singleton.1 hf] at hx; exact .inl hx); clear hN
  replace hM := hM.tapEq (q := bs.drop 10) (by first | (rw [List.drop_drop]; done) | (rw [List.drop_drop]; congr 1; omega))
  refine s_conv hE rfl (cnv_int Try.underlying24 Try.underlying3 (wrap_i64 (by omega) (by omega))) rfl ?_; clear hE a; intro a hE
  refine s_buildS [[.int .i64 ((val ((bs.drop 8).take 1) : Nat) : Int)], [.int .i64 ((val ((bs.drop 9).take 1) : Nat) : Int)]] hE rfl zero23 (by kernel_rfl) fpl23 (by first | (simp [PartsOk, Value.cells]; done) | (simp [PartsOk, Value.cells]; omega)) rfl ?_; clear hE a; intro a hE
  replace hE := hE.cast 15 rfl (show _ = Value.agg ([[.int .i64 ((val ((bs.drop 8).take 1) : Nat) : Int)], [.int .i64 ((val ((bs.drop 9).take 1) : Nat) : Int)]] : List (List Value)).flatten.toArray from (by first | rfl | simp [setAll] | (simp only [setAll, List.set_cons_zero, List.set_cons_succ, List.flatten_cons, List.flatten_nil, List.append_nil, List.append_assoc, List.replicate_succ, List.replicate_zero])))
  refine s_buildS [([[.int .i64 ((val ((bs.drop 8).take 1) : Nat) : Int)], [.int .i64 ((val ((bs.drop 9).take 1) : Nat) : Int)]] : List (List Value)).flatten] hE rfl zero39 (by kernel_rfl) fpl39 (by first | (simp [PartsOk, Value.cells]; done) | (simp [PartsOk, Value.cells]; omega)) rfl ?_; clear hE a; intro a hE
  replace hE := hE.cast 16 rfl (show _ = Value.agg ([[.int .i64 ((val ((bs.drop 8).take 1) : Nat) : Int)], [.int .i64 ((val ((bs.drop 9).take 1) : Nat) : Int)], [.bool false], [.int .u64 0], bv (List.replicate 32 (0 : UInt8)), bv (List.replicate 32 (0 : UInt8)), [.bool false], [.int .u64 0], bv (List.replicate 32 (0 : UInt8)), bv (List.replicate 32 (0 : UInt8)), [.bool false], [.int .i64 0], bv (List.replicate 16 (0 : UInt8)), bv (List.replicate 32 (0 : UInt8)), bv (List.replicate 32 (0 : UInt8)), [.bool false], [.int .i64 0], bv (List.replicate 16 (0 : UInt8)), bv (List.replicate 32 (0 : UInt8)), bv (List.replicate 32 (0 : UInt8)), [.bool false], [.int .i64 0], bv (List.replicate 16 (0 : UInt8)), bv (List.replicate 32 (0 : UInt8)), bv (List.replicate 32 (0 : UInt8)), [.bool false], [.int .i64 0], bv (List.replicate 16 (0 : UInt8)), bv (List.replicate 32 (0 : UInt8)), bv (List.replicate 32 (0 : UInt8))] : List (List Value)).flatten.toArray from (by first | rfl | simp [setAll] | (simp only [setAll, List.set_cons_zero, List.set_cons_succ, List.flatten_cons, List.flatten_nil, List.append_nil, List.append_assoc, List.replicate_succ, List.replicate_zero])))
  refine s_alloc [1, 1, 1, 1, 32, 32, 1, 1, 32, 32, 1, 1, 16, 32, 32, 1, 1, 16, 32, 32, 1, 1, 16, 32, 32, 1, 1, 16, 32, 32] hE hM zeroL39 rfl rfl ?_; clear hE a; intro a b3 w5 hE hM'
  clear hM; have hM := hM'; clear hM'
  have hsl53_4 : (List.replicate 32 (0 : UInt8)).length = 32 := List.length_replicate
  have hsl53_5 : (List.replicate 32 (0 : UInt8)).length = 32 := List.length_replicate
  have hsl53_8 : (List.replicate 32 (0 : UInt8)).length = 32 := List.length_replicate
  have hsl53_9 : (List.replicate 32 (0 : UInt8)).length = 32 := List.length_replicate
  have hsl53_12 : (List.replicate 16 (0 : UInt8)).length = 16 := List.length_replicate
  have hsl53_13 : (List.replicate 32 (0 : UInt8)).length = 32 := List.length_replicate
  have hsl53_14 : (List.replicate 32 (0 : UInt8)).length = 32 := List.length_replicate
  have hsl53_17 : (List.replicate 16 (0 : UInt8)).length = 16 := List.length_replicate
  have hsl53_18 : (List.replicate 32 (0 : UInt8)).length = 32 := List.length_replicate
  have hsl53_19 : (List.replicate 32 (0 : UInt8)).length = 32 := List.length_replicate
  have hsl53_22 : (List.replicate 16 (0 : UInt8)).length = 16 := List.length_replicate
  have hsl53_23 : (List.replicate 32 (0 : UInt8)).length = 32 := List.length_replicate
  have hsl53_24 : (List.replicate 32 (0 : UInt8)).length = 32 := List.length_replicate
  have hsl53_27 : (List.replicate 16 (0 : UInt8)).length = 16 := List.length_replicate
  have hsl53_28 : (List.replicate 32 (0 : UInt8)).length = 32 := List.length_replicate
  have hsl53_29 : (List.replicate 32 (0 : UInt8)).length = 32 := List.length_replicate
  refine s_storeSegs 0 30 (vss := [[.int .i64 ((val ((bs.drop 8).take 1) : Nat) : Int)], [.int .i64 ((val ((bs.drop 9).take 1) : Nat) : Int)], [.bool false], [.int .u64 0], bv (List.replicate 32 (0 : UInt8)), bv (List.replicate 32 (0 : UInt8)), [.bool false], [.int .u64 0], bv (List.replicate 32 (0 : UInt8)), bv (List.replicate 32 (0 : UInt8)), [.bool false], [.int .i64 0], bv (List.replicate 16 (0 : UInt8)), bv (List.replicate 32 (0 : UInt8)), bv (List.replicate 32 (0 : UInt8)), [.bool false], [.int .i64 0], bv (List.replicate 16 (0 : UInt8)), bv (List.replicate 32 (0 : UInt8)), bv (List.replicate 32 (0 : UInt8)), [.bool false], [.int .i64 0], bv (List.replicate 16 (0 : UInt8)), bv (List.replicate 32 (0 : UInt8)), bv (List.replicate 32 (0 : UInt8)), [.bool false], [.int .i64 0], bv (List.replicate 16 (0 : UInt8)), bv (List.replicate 32 (0 : UInt8)), bv (List.replicate 32 (0 : UInt8))]) hE rfl rfl hM rfl sz39 (by simp only [List.take_succ_cons, List.take_zero, List.drop_zero, List.drop_succ_cons]; simp only [List.map_cons, List.map_nil, bv_length, List.length_cons, List.length_nil, List.length_replicate, hsl53_4, hsl53_5, hsl53_8, hsl53_9, hsl53_12, hsl53_13, hsl53_14, hsl53_17, hsl53_18, hsl53_19, hsl53_22, hsl53_23, hsl53_24, hsl53_27, hsl53_28, hsl53_29]) (by decide) rfl (one_fl ⟨one1 rfl, one1 rfl, one1 rfl, one1 rfl, bv_one _, bv_one _, one1 rfl, one1 rfl, bv_one _, bv_one _, one1 rfl, one1 rfl, bv_one _, bv_one _, bv_one _, one1 rfl, one1 rfl, bv_one _, bv_one _, bv_one _, one1 rfl, one1 rfl, bv_one _, bv_one _, bv_one _, one1 rfl, one1 rfl, bv_one _, bv_one _, bv_one _, trivial⟩) rfl (by intro X h; cases h) ?_; intro w6 hM'; clear hM; have hM := hM'; clear hM'
  try simp only [List.take_zero, List.take_succ_cons, List.drop_zero, List.drop_succ_cons, List.take_nil, List.drop_nil, List.nil_append, List.append_nil, List.cons_append] at hM
  refine q_nil ?_
  replace hE : Env a 56 [(0, _), (2, _), (3, _)] := hE.sel [0, 2, 3] rfl
  refine hK3 _ _ ?_
  refine wp_seq_k (fun K4 hK4 => ?_)
  refine wp_seq_k (fun K5 hK5 => ?_)
  refine wp_plain [true] rfl rfl ?_
  refine s_move hE rfl rfl ?_; clear hE a; intro a hE
  refine q_nil ?_
  refine hK5 _ _ ?_
  refine wp_block ?_
  refine wp_loop_rounds 3 (c_rounds ?_)
  refine wp_seq_k (fun K6 hK6 => ?_)
  refine wp_plain [true] rfl rfl ?_
  refine s_bin hE rfl rfl bin_lss rfl ?_; clear hE a; intro a hE
  replace hE := hE.cast 18 rfl (show _ = Value.bool true from (congrArg Value.bool (by decide)))
  refine q_nil ?_
  refine hK6 _ _ ?_
  refine wp_seq_k (fun K7 hK7 => ?_)
  refine wp_cond_true (hE.eval rfl) ?_
  refine wp_skip ?_
  refine hK7 _ _ ?_
  refine wp_seq_k (fun K8 hK8 => ?_)
  refine wp_block ?_
  refine wp_seq_k (fun K9 hK9 => ?_)
  refine wp_plain [true, true] rfl rfl ?_
  refine s_move hE rfl rfl ?_; clear hE a; intro a hE
  refine s_assign hE rfl rfl ?_; clear hE a; intro a hE
  refine q_nil ?_
  replace hE : Env a 56 [(0, _), (2, _), (3, _), (4, _), (17, _), (18, _)] := hE.sel [0, 2, 3, 4, 17, 18] rfl
  refine hK9 _ _ ?_
  refine wp_plain [true, true, false, true, true, false, true, false, true, true, true, false] rfl rfl ?_
  refine s_move hE rfl rfl ?_; clear hE a; intro a hE
  refine s_move hE rfl rfl ?_; clear hE a; intro a hE
  replace hM : Mem _ _ w6 [_, _, _, _] := hM.pick [1, 0, 2, 3] rfl
  refine s_call hE rfl Try.call42 (tapNum_ok tb bb (bs.drop 10) 1 _ (hM.get 0 rfl) rfl (by have hl_ : (bs.drop 10).length = bs.length - 10 := (by simp; try omega); first | omega | (simp; done) | (simp; omega))) rfl ?_
  rintro e w7 ⟨rfl, hN⟩
  refine ⟨_, rfl, trivial, ?_⟩; clear hE a; intro a hE
  replace hM : Mem _ _ w7 [_, _, _, _] := hM.call1 hN (fun f hf x hx => by rw [List.mem_singleton.1 hf] at hx; exact .inl hx); clear hN
  replace hM := hM.tapEq (q := bs.drop 11) (by first | (rw [List.drop_drop]; done) | (rw [List.drop_drop]; congr 1; omega))
  refine s_bin hE rfl rfl bin_eql rfl ?_; clear hE a; intro a hE
  refine s_move hE rfl rfl ?_; clear hE a; intro a hE
  refine s_call hE rfl Try.call42 (tapNum_ok tb bb (bs.drop 11) 8 _ (hM.get 0 rfl) rfl (by have hl_ : (bs.drop 11).length = bs.length - 11 := (by simp; try omega); first | omega | (simp; done) | (simp; omega))) rfl ?_
  rintro e w8 ⟨rfl, hN⟩
  refine ⟨_, rfl, trivial, ?_⟩; clear hE a; intro a hE
  replace hM : Mem _ _ w8 [_, _, _, _] := hM.call1 hN (fun f hf x hx => by rw [List.mem_singleton.1 hf] at hx; exact .inl hx); clear hN
  replace hM := hM.tapEq (q := bs.drop 19) (by first | (rw [List.drop_drop]; done) | (rw [List.drop_drop]; congr 1; omega))
  refine s_move hE rfl rfl ?_; clear hE a; intro a hE
  refine s_call hE rfl Try.call43 (hwrapped_c tb bb (bs.drop 19) _ (hM.get 0 rfl) (by have hl_ : (bs.drop 19).length = bs.length - 19 := (by simp; try omega); first | omega | (simp; done) | (simp; omega)) (by have hl_ : (bs.drop 19).length = bs.length - 19 := (by simp; try omega); first | omega | (simp; done) | (simp; omega))) rfl ?_
  rintro e w9 ⟨rfl, hN⟩
  refine ⟨_, rfl, trivial, ?_⟩; clear hE a; intro a hE
  replace hM : Mem _ _ w9 [_, _, _, _] := hM.call1 hN (fun f hf x hx => by rw [List.mem_singleton.1 hf] at hx; exact .inl hx); clear hN
  replace hM := hM.tapEq (q := bs.drop 83) (by first | (rw [List.drop_drop]; done) | (rw [List.drop_drop]; congr 1; omega))
  have hbd28_2_0 : ((bs.drop 19).take 32).length = 32 := (by have hl_q : (bs.drop 19).length = bs.length - 19 := (by simp; try omega); simp; try omega)
  have hbd28_2_1 : (((bs.drop 19).drop 32).take 32).length = 32 := (by have hl_q : (bs.drop 19).length = bs.length - 19 := (by simp; try omega); simp; try omega)
  refine s_buildS [[.bool (decide (((val ((bs.drop 10).take 1) : Nat) : Int) = 1))], [.int .u64 ((val ((bs.drop 11).take 8) : Nat) : Int)], ([bv ((bs.drop 19).take 32), bv (((bs.drop 19).drop 32).take 32)] : List (List Value)).flatten] hE rfl zero31 (by kernel_rfl) fpl31 (by first | (simp [PartsOk, Value.cells, hbd28_2_0, hbd28_2_1]; done) | (simp [PartsOk, Value.cells, hbd28_2_0, hbd28_2_1]; omega)) rfl ?_; clear hE a; intro a hE
  replace hE := hE.cast 28 rfl (show _ = Value.agg ([[.bool (decide (((val ((bs.drop 10).take 1) : Nat) : Int) = 1))], [.int .u64 ((val ((bs.drop 11).take 8) : Nat) : Int)], bv ((bs.drop 19).take 32), bv (((bs.drop 19).drop 32).take 32)] : List (List Value)).flatten.toArray from (by first | rfl | simp [setAll] | (simp only [setAll, List.set_cons_zero, List.set_cons_succ, List.flatten_cons, List.flatten_nil, List.append_nil, List.append_assoc, List.replicate_succ, List.replicate_zero])))
  refine s_fieldAddr hE rfl fo39_1 rfl ?_; clear hE a; intro a hE
  refine s_indexArr (j := 0) hE rfl rfl arr32 rfl (by decide) rfl ?_; clear hE a; intro a hE
  have hsl129_2 : ((bs.drop 19).take 32).length = 32 := (by have hl_q : (bs.drop 19).length = bs.length - 19 := (by simp; try omega); simp; try omega)
  have hsl129_3 : (((bs.drop 19).drop 32).take 32).length = 32 := (by have hl_q : (bs.drop 19).length = bs.length - 19 := (by simp; try omega); simp; try omega)
  replace hM : Mem _ _ w9 [_, _, _, _] := hM.pick [1, 0, 2, 3] rfl
  refine s_storeSegs 2 4 (vss := [[.bool (decide (((val ((bs.drop 10).take 1) : Nat) : Int) = 1))], [.int .u64 ((val ((bs.drop 11).take 8) : Nat) : Int)], bv ((bs.drop 19).take 32), bv (((bs.drop 19).drop 32).take 32)]) hE rfl rfl hM rfl sz31 (by simp only [List.take_succ_cons, List.take_zero, List.drop_zero, List.drop_succ_cons]; simp only [List.map_cons, List.map_nil, bv_length, List.length_cons, List.length_nil, List.length_replicate, hsl129_2, hsl129_3]) (by decide) rfl (one_fl ⟨one1 rfl, one1 rfl, bv_one _, bv_one _, trivial⟩) rfl (by intro X h; cases h) ?_; intro w10 hM'; clear hM; have hM := hM'; clear hM'
  try simp only [List.take_zero, List.take_succ_cons, List.drop_zero, List.drop_succ_cons, List.take_nil, List.drop_nil, List.nil_append, List.append_nil, List.cons_append] at hM
  refine q_nil ?_
  replace hE : Env a 56 [(0, _), (2, _), (3, _), (4, _), (17, _), (18, _)] := hE.sel [0, 2, 3, 4, 17, 18] rfl
  refine q_block_n ?_
  refine hK8 _ _ ?_
  refine wp_plain [true, true] rfl rfl ?_
  refine s_bin hE rfl rfl (show Bin _ _ _ _ _ (.int .i64 1) from bin_add (by rw [wrap_i64 (by omega) (by omega)]; omega)) rfl ?_; clear hE a; intro a hE
  refine s_move hE rfl rfl ?_; clear hE a; intro a hE
  refine q_nil ?_
  replace hE : Env a 56 [(0, _), (2, _), (3, _), (4, _), (17, _), (18, _)] := hE.sel [0, 2, 3, 4, 17, 18] rfl
  replace hM : Mem _ _ w10 [_, _, _, _] := hM.pick [0, 1, 2, 3] rfl
  refine q_then_n (c_rounds ?_)
  refine wp_seq_k (fun K10 hK10 => ?_)
  refine wp_plain [true] rfl rfl ?_
  refine s_bin hE rfl rfl bin_lss rfl ?_; clear hE a; intro a hE
  replace hE := hE.cast 18 rfl (show _ = Value.bool true from (congrArg Value.bool (by decide)))
  refine q_nil ?_
  refine hK10 _ _ ?_
  refine wp_seq_k (fun K11 hK11 => ?_)
  refine wp_cond_true (hE.eval rfl) ?_
  refine wp_skip ?_
  refine hK11 _ _ ?_
  refine wp_seq_k (fun K12 hK12 => ?_)
  refine wp_block ?_
  refine wp_seq_k (fun K13 hK13 => ?_)
  refine wp_plain [true, true] rfl rfl ?_
  refine s_move hE rfl rfl ?_; clear hE a; intro a hE
  refine s_assign hE rfl rfl ?_; clear hE a; intro a hE
  refine q_nil ?_
  replace hE : Env a 56 [(0, _), (2, _), (3, _), (4, _), (17, _), (18, _)] := hE.sel [0, 2, 3, 4, 17, 18] rfl
  refine hK13 _ _ ?_
  refine wp_plain [true, true, false, true, true, false, true, false, true, true, true, false] rfl rfl ?_
  refine s_move hE rfl rfl ?_; clear hE a; intro a hE
  refine s_move hE rfl rfl ?_; clear hE a; intro a hE
  replace hM : Mem _ _ w10 [_, _, _, _] := hM.pick [1, 0, 2, 3] rfl
  refine s_call hE rfl Try.call42 (tapNum_ok tb bb (bs.drop 83) 1 _ (hM.get 0 rfl) rfl (by have hl_ : (bs.drop 83).length = bs.length - 83 := (by simp; try omega); first | omega | (simp; done) | (simp; omega))) rfl ?_
  rintro e w11 ⟨rfl, hN⟩
  refine ⟨_, rfl, trivial, ?_⟩; clear hE a; intro a hE
  replace hM : Mem _ _ w11 [_, _, _, _] := hM.call1 hN (fun f hf x hx => by rw [List.mem_singleton.1 hf] at hx; exact .inl hx); clear hN
  replace hM := hM.tapEq (q := bs.drop 84) (by first | (rw [List.drop_drop]; done) | (rw [List.drop_drop]; congr 1; omega))
  refine s_bin hE rfl rfl bin_eql rfl ?_; clear hE a; intro a hE
  refine s_move hE rfl rfl ?_; clear hE a; intro a hE
  refine s_call hE rfl Try.call42 (tapNum_ok tb bb (bs.drop 84) 8 _ (hM.get 0 rfl) rfl (by have hl_ : (bs.drop 84).length = bs.length - 84 := (by simp; try omega); first | omega | (simp; done) | (simp; omega))) rfl ?_
  rintro e w12 ⟨rfl, hN⟩
  refine ⟨_, rfl, trivial, ?_⟩; clear hE a; intro a hE
  replace hM : Mem _ _ w12 [_, _, _, _] := hM.call1 hN (fun f hf x hx => by rw [List.mem_singleton.1 hf] at hx; exact .inl hx); clear hN
  replace hM := hM.tapEq (q := bs.drop 92) (by first | (rw [List.drop_drop]; done) | (rw [List.drop_drop]; congr 1; omega))
  refine s_move hE rfl rfl ?_; clear hE a; intro a hE
  refine s_call hE rfl Try.call43 (hwrapped_c tb bb (bs.drop 92) _ (hM.get 0 rfl) (by have hl_ : (bs.drop 92).length = bs.length - 92 := (by simp; try omega); first | omega | (simp; done) | (simp; omega)) (by have hl_ : (bs.drop 92).length = bs.length - 92 := (by simp; try omega); first | omega | (simp; done) | (simp; omega))) rfl ?_
  rintro e w13 ⟨rfl, hN⟩
  refine ⟨_, rfl, trivial, ?_⟩; clear hE a; intro a hE
  replace hM : Mem _ _ w13 [_, _, _, _] := hM.call1 hN (fun f hf x hx => by rw [List.mem_singleton.1 hf] at hx; exact .inl hx); clear hN
  replace hM := hM.tapEq (q := bs.drop 156) (by first | (rw [List.drop_drop]; done) | (rw [List.drop_drop]; congr 1; omega))
  have hbd28_2_0 : ((bs.drop 92).take 32).length = 32 := (by have hl_q : (bs.drop 92).length = bs.length - 92 := (by simp; try omega); simp; try omega)
  have hbd28_2_1 : (((bs.drop 92).drop 32).take 32).length = 32 := (by have hl_q : (bs.drop 92).length = bs.length - 92 := (by simp; try omega); simp; try omega)
  refine s_buildS [[.bool (decide (((val ((bs.drop 83).take 1) : Nat) : Int) = 1))], [.int .u64 ((val ((bs.drop 84).take 8) : Nat) : Int)], ([bv ((bs.drop 92).take 32), bv (((bs.drop 92).drop 32).take 32)] : List (List Value)).flatten] hE rfl zero31 (by kernel_rfl) fpl31 (by first | (simp [PartsOk, Value.cells, hbd28_2_0, hbd28_2_1]; done) | (simp [PartsOk, Value.cells, hbd28_2_0, hbd28_2_1]; omega)) rfl ?_; clear hE a; intro a hE
  replace hE := hE.cast 28 rfl (show _ = Value.agg ([[.bool (decide (((val ((bs.drop 83).take 1) : Nat) : Int) = 1))], [.int .u64 ((val ((bs.drop 84).take 8) : Nat) : Int)], bv ((bs.drop 92).take 32), bv (((bs.drop 92).drop 32).take 32)] : List (List Value)).flatten.toArray from (by first | rfl | simp [setAll] | (simp only [setAll, List.set_cons_zero, List.set_cons_succ, List.flatten_cons, List.flatten_nil, List.append_nil, List.append_assoc, List.replicate_succ, List.replicate_zero])))
  refine s_fieldAddr hE rfl fo39_1 rfl ?_; clear hE a; intro a hE
  refine s_indexArr (j := 1) hE rfl rfl arr32 rfl (by decide) rfl ?_; clear hE a; intro a hE
  have hsl192_2 : ((bs.drop 92).take 32).length = 32 := (by have hl_q : (bs.drop 92).length = bs.length - 92 := (by simp; try omega); simp; try omega)
  have hsl192_3 : (((bs.drop 92).drop 32).take 32).length = 32 := (by have hl_q : (bs.drop 92).length = bs.length - 92 := (by simp; try omega); simp; try omega)
  replace hM : Mem _ _ w13 [_, _, _, _] := hM.pick [1, 0, 2, 3] rfl
  refine s_storeSegs 6 4 (vss := [[.bool (decide (((val ((bs.drop 83).take 1) : Nat) : Int) = 1))], [.int .u64 ((val ((bs.drop 84).take 8) : Nat) : Int)], bv ((bs.drop 92).take 32), bv (((bs.drop 92).drop 32).take 32)]) hE rfl rfl hM rfl sz31 (by simp only [List.take_succ_cons, List.take_zero, List.drop_zero, List.drop_succ_cons]; simp only [List.map_cons, List.map_nil, bv_length, List.length_cons, List.length_nil, List.length_replicate, hsl192_2, hsl192_3]) (by decide) rfl (one_fl ⟨one1 rfl, one1 rfl, bv_one _, bv_one _, trivial⟩) rfl (by intro X h; cases h) ?_; intro w14 hM'; clear hM; have hM := hM'; clear hM'
  try simp only [List.take_zero, List.take_succ_cons, List.drop_zero, List.drop_succ_cons, List.take_nil, List.drop_nil, List.nil_append, List.append_nil, List.cons_append] at hM
  refine q_nil ?_
  replace hE : Env a 56 [(0, _), (2, _), (3, _), (4, _), (17, _), (18, _)] := hE.sel [0, 2, 3, 4, 17, 18] rfl
  refine q_block_n ?_
  refine hK12 _ _ ?_
  refine wp_plain [true, true] rfl rfl ?_
  refine s_bin hE rfl rfl (show Bin _ _ _ _ _ (.int .i64 2) from bin_add (by rw [wrap_i64 (by omega) (by omega)]; omega)) rfl ?_; clear hE a; intro a hE
  refine s_move hE rfl rfl ?_; clear hE a; intro a hE
  refine q_nil ?_
  replace hE : Env a 56 [(0, _), (2, _), (3, _), (4, _), (17, _), (18, _)] := hE.sel [0, 2, 3, 4, 17, 18] rfl
  replace hM : Mem _ _ w14 [_, _, _, _] := hM.pick [0, 1, 2, 3] rfl
  refine q_then_n (c_rounds ?_)
  refine wp_seq_k (fun K14 hK14 => ?_)
  refine wp_plain [true] rfl rfl ?_
  refine s_bin hE rfl rfl bin_lss rfl ?_; clear hE a; intro a hE
  replace hE := hE.cast 18 rfl (show _ = Value.bool false from (congrArg Value.bool (by decide)))
  refine q_nil ?_
  refine hK14 _ _ ?_
  refine wp_seq_k (fun K15 hK15 => ?_)
  refine wp_cond_false (hE.eval rfl) ?_
  refine wp_exit ?_
  refine q_then_e ?_
  refine q_then_e ?_
  refine q_block_x ?_
  refine hK4 _ _ ?_
  refine wp_seq_k (fun K16 hK16 => ?_)
  refine wp_seq_k (fun K17 hK17 => ?_)
  refine wp_plain [true] rfl rfl ?_
  refine s_move hE rfl rfl ?_; clear hE a; intro a hE
  refine q_nil ?_
  refine hK17 _ _ ?_
  refine wp_block ?_
  refine wp_loop_rounds 5 (c_rounds ?_)
  refine wp_seq_k (fun K18 hK18 => ?_)
  refine wp_plain [true] rfl rfl ?_
  refine s_bin hE rfl rfl bin_lss rfl ?_; clear hE a; intro a hE
  replace hE := hE.cast 33 rfl (show _ = Value.bool true from (congrArg Value.bool (by decide)))
  refine q_nil ?_
  refine hK18 _ _ ?_
  refine wp_seq_k (fun K19 hK19 => ?_)
  refine wp_cond_true (hE.eval rfl) ?_
  refine wp_skip ?_
  refine hK19 _ _ ?_
  refine wp_seq_k (fun K20 hK20 => ?_)
  refine wp_block ?_
  refine wp_seq_k (fun K21 hK21 => ?_)
  refine wp_plain [true, true] rfl rfl ?_
  refine s_move hE rfl rfl ?_; clear hE a; intro a hE
  refine s_assign hE rfl rfl ?_; clear hE a; intro a hE
  refine q_nil ?_
  replace hE : Env a 56 [(0, _), (2, _), (3, _), (4, _), (5, _), (17, _), (18, _), (32, _), (33, _)] := hE.sel [0, 2, 3, 4, 5, 17, 18, 32, 33] rfl
  refine hK21 _ _ ?_
  refine wp_seq_k (fun K22 hK22 => ?_)
  refine wp_plain [true, false, true, true, false, true, true, false, false] rfl rfl ?_
  refine s_move hE rfl rfl ?_; clear hE a; intro a hE
  replace hM : Mem _ _ w14 [_, _, _, _] := hM.pick [1, 0, 2, 3] rfl
  refine s_call hE rfl Try.call42 (tapNum_ok tb bb (bs.drop 156) 1 _ (hM.get 0 rfl) rfl (by have hl_ : (bs.drop 156).length = bs.length - 156 := (by simp; try omega); first | omega | (simp; done) | (simp; omega))) rfl ?_
  rintro e w15 ⟨rfl, hN⟩
  refine ⟨_, rfl, trivial, ?_⟩; clear hE a; intro a hE
  replace hM : Mem _ _ w15 [_, _, _, _] := hM.call1 hN (fun f hf x hx => by rw [List.mem_singleton.1 hf] at hx; exact .inl hx); clear hN
  replace hM := hM.tapEq (q := bs.drop 157) (by first | (rw [List.drop_drop]; done) | (rw [List.drop_drop]; congr 1; omega))
  refine s_bin hE rfl rfl bin_eql rfl ?_; clear hE a; intro a hE
  refine s_move hE rfl rfl ?_; clear hE a; intro a hE
  refine s_call hE rfl Try.call42 (tapNum_ok tb bb (bs.drop 157) 4 _ (hM.get 0 rfl) rfl (by have hl_ : (bs.drop 157).length = bs.length - 157 := (by simp; try omega); first | omega | (simp; done) | (simp; omega))) rfl ?_
  rintro e w16 ⟨rfl, hN⟩
  refine ⟨_, rfl, trivial, ?_⟩; clear hE a; intro a hE
  replace hM : Mem _ _ w16 [_, _, _, _] := hM.call1 hN (fun f hf x hx => by rw [List.mem_singleton.1 hf] at hx; exact .inl hx); clear hN
  replace hM := hM.tapEq (q := bs.drop 161) (by first | (rw [List.drop_drop]; done) | (rw [List.drop_drop]; congr 1; omega))
  refine s_conv hE rfl (cnv_int Try.underlying24 Try.underlying3 (wrap_i64 (by omega) (by omega))) rfl ?_; clear hE a; intro a hE
  refine s_buildS [[.bool (decide (((val ((bs.drop 156).take 1) : Nat) : Int) = 1))], [.int .i64 ((val ((bs.drop 157).take 4) : Nat) : Int)]] hE rfl zero36 (by kernel_rfl) fpl36 (by first | (simp [PartsOk, Value.cells]; done) | (simp [PartsOk, Value.cells]; omega)) rfl ?_; clear hE a; intro a hE
  replace hE := hE.cast 41 rfl (show _ = Value.agg ([[.bool (decide (((val ((bs.drop 156).take 1) : Nat) : Int) = 1))], [.int .i64 ((val ((bs.drop 157).take 4) : Nat) : Int)], bv (List.replicate 16 (0 : UInt8)), bv (List.replicate 32 (0 : UInt8)), bv (List.replicate 32 (0 : UInt8))] : List (List Value)).flatten.toArray from (by first | rfl | simp [setAll] | (simp only [setAll, List.set_cons_zero, List.set_cons_succ, List.flatten_cons, List.flatten_nil, List.append_nil, List.append_assoc, List.replicate_succ, List.replicate_zero])))
  refine s_alloc [1, 1, 16, 32, 32] hE hM zeroL36 rfl rfl ?_; clear hE a; intro a b6 w17 hE hM'
  clear hM; have hM := hM'; clear hM'
  have hsl269_2 : (List.replicate 16 (0 : UInt8)).length = 16 := List.length_replicate
  have hsl269_3 : (List.replicate 32 (0 : UInt8)).length = 32 := List.length_replicate
  have hsl269_4 : (List.replicate 32 (0 : UInt8)).length = 32 := List.length_replicate
  refine s_storeSegs 0 5 (vss := [[.bool (decide (((val ((bs.drop 156).take 1) : Nat) : Int) = 1))], [.int .i64 ((val ((bs.drop 157).take 4) : Nat) : Int)], bv (List.replicate 16 (0 : UInt8)), bv (List.replicate 32 (0 : UInt8)), bv (List.replicate 32 (0 : UInt8))]) hE rfl rfl hM rfl sz36 (by simp only [List.take_succ_cons, List.take_zero, List.drop_zero, List.drop_succ_cons]; simp only [List.map_cons, List.map_nil, bv_length, List.length_cons, List.length_nil, List.length_replicate, hsl269_2, hsl269_3, hsl269_4]) (by decide) rfl (one_fl ⟨one1 rfl, one1 rfl, bv_one _, bv_one _, bv_one _, trivial⟩) rfl (by intro X h; cases h) ?_; intro w18 hM'; clear hM; have hM := hM'; clear hM'
  try simp only [List.take_zero, List.take_succ_cons, List.drop_zero, List.drop_succ_cons, List.take_nil, List.drop_nil, List.nil_append, List.append_nil, List.cons_append] at hM
  refine q_nil ?_
  replace hE : Env a 56 [(0, _), (2, _), (3, _), (4, _), (5, _), (6, _), (17, _), (18, _), (32, _), (33, _)] := hE.sel [0, 2, 3, 4, 5, 6, 17, 18, 32, 33] rfl
  refine hK22 _ _ ?_
  refine wp_seq_k (fun K23 hK23 => ?_)
  refine wp_treeM hM (by kernel_rfl) (fun _ => True) (fun _ => True) (.re [(0, true), (1, true), (2, true), (3, false), (4, false)] (.fl 3 (.fl 0 (.weak (.or 3 (.cut (.re [(4, false)] (.fl 0 (.fl 0 (.weak (.or 4 (.cut (.re [] (.weak (.leaf 0)))) (.stop))))))) (.stop)))))) [(0, true), (1, true), (2, true), (3, false), (4, false)] [(0, [(1, 0), (4, 1)]), (1, [(4, 1)]), (3, [(4, 3)]), (4, [])] (by kernel_rfl) ?_
  intro w19 hM' hww19; clear hM; have hM := hM'; clear hM'
  refine o_re ?_
  refine o_fl rfl ?_
  refine s_fieldAddr hE rfl fo36_2 rfl ?_; clear hE a; intro a hE
  refine s_sliceArr (l := 0) (h := 16) (mx' := 16) hE rfl arr34 rfl rfl rfl (by simp) (by omega) (by omega) (by omega) rfl ?_; clear hE a; intro a hE
  replace hE := hE.cast 43 rfl (show _ = Value.slice (some ⟨b6, 2, none⟩) 16 16 from rfl)
  refine s_move hE rfl rfl ?_; clear hE a; intro a hE
  refine q_nil (q_nx ?_)
  refine o_fl rfl ?_
  refine q_nil (q_nx ?_)
  refine o_weak (fun b => b ∈ [tb]) (fun _ _ => trivial) ?_
  refine o_or rfl ?_ ?_
  · replace hM : Mem _ _ w19 [_, _, _, _, _] := hM.pick [1, 0, 2, 3, 4] rfl
    have hlt45_2 : ((bs.drop 161).take 16).length = 16 := (by have hl_q : (bs.drop 161).length = bs.length - 161 := (by simp; try omega); simp; try omega)
    refine s_call hE rfl Try.call41 (tapBytes_ok tb bb (bs.drop 161) 16 _ (hM.get 0 rfl) (by have hl_ : (bs.drop 161).length = bs.length - 161 := (by simp; try omega); first | omega | (simp; done) | (simp; omega))) rfl ?_
    rintro e w20 ⟨v45, rfl, hvt45_2, hN⟩
    refine ⟨_, rfl, hN.sta, ?_⟩; clear hE a; intro a hE
    replace hM : Mem _ _ w20 [_, _, _, _, _, _] := hM.call1 hN (fun f hf x hx => (List.mem_cons.1 hf).elim (fun h => by subst h; exact .inl (hvt45_2 x (by first | exact hx | (rw [hlt45_2] at hx; exact hx)))) (fun h => by rw [List.mem_singleton.1 h] at hx; exact .inl hx)); clear hN
    replace hM : Mem _ _ w20 [_, _, _, _, _, _] := hM.pick [1, 0, 2, 3, 4, 5] rfl
    replace hM := hM.tapEq (q := bs.drop 177) (by first | (rw [List.drop_drop]; done) | (rw [List.drop_drop]; congr 1; omega))
    refine q_nil (q_nx ?_)
    refine o_cut (fun _ => True) ?_
    refine o_re ?_
    refine o_fl rfl ?_
    refine q_nil (q_nx ?_)
    refine o_fl rfl ?_
    refine q_nil (q_nx ?_)
    refine o_weak (fun b => b = b6) (fun _ _ => trivial) ?_
    refine o_or rfl ?_ ?_
    · replace hM : Mem _ _ w20 [_, _, _, _, _, _] := hM.pick [2, 0, 1, 3, 4, 5] rfl
      refine s_copySeg 2 hE rfl rfl hM (hM.get 2 rfl) hlt45_2 (bv_one _) sl55 rfl ((bv_length _).trans List.length_replicate) rfl (by intro X h; cases h; rfl) rfl ?_; clear hE a; intro a w21 hE hM'; clear hM; have hM := hM'; clear hM'
      simp only [List.set_cons_zero, List.set_cons_succ] at hM
      refine q_nil (q_nx ?_)
      refine o_cut (fun _ => True) ?_
      refine o_re ?_
      refine o_weak (fun _ => False) (fun _ _ => trivial) ?_
      refine o_leaf rfl rfl ?_
      refine q_nil (q_ph (q_nil ?_))
      replace hE : Env a 56 [(0, _), (2, _), (3, _), (4, _), (5, _), (6, _), (17, _), (18, _), (32, _), (33, _)] := hE.sel [0, 2, 3, 4, 5, 6, 17, 18, 32, 33] rfl
      refine hK23 _ _ ?_
      refine wp_seq_k (fun K24 hK24 => ?_)
      refine wp_plain [true, false, true, false] rfl rfl ?_
      refine s_move hE rfl rfl ?_; clear hE a; intro a hE
      replace hM : Mem _ _ w21 [_, _, _, _, _, _] := hM.pick [1, 0, 2, 3, 4, 5] rfl
      refine s_call hE rfl Try.call43 (hwrapped_c tb bb (bs.drop 177) _ (hM.get 0 rfl) (by have hl_ : (bs.drop 177).length = bs.length - 177 := (by simp; try omega); first | omega | (simp; done) | (simp; omega)) (by have hl_ : (bs.drop 177).length = bs.length - 177 := (by simp; try omega); first | omega | (simp; done) | (simp; omega))) rfl ?_
      rintro e w22 ⟨rfl, hN⟩
      refine ⟨_, rfl, trivial, ?_⟩; clear hE a; intro a hE
      replace hM : Mem _ _ w22 [_, _, _, _, _, _] := hM.call1 hN (fun f hf x hx => by rw [List.mem_singleton.1 hf] at hx; exact .inl hx); clear hN
      replace hM := hM.tapEq (q := bs.drop 241) (by first | (rw [List.drop_drop]; done) | (rw [List.drop_drop]; congr 1; omega))
      refine s_fieldAddr hE rfl fo36_3 rfl ?_; clear hE a; intro a hE
      have hsl329_0 : ((bs.drop 177).take 32).length = 32 := (by have hl_q : (bs.drop 177).length = bs.length - 177 := (by simp; try omega); simp; try omega)
      have hsl329_1 : (((bs.drop 177).drop 32).take 32).length = 32 := (by have hl_q : (bs.drop 177).length = bs.length - 177 := (by simp; try omega); simp; try omega)
      replace hM : Mem _ _ w22 [_, _, _, _, _, _] := hM.pick [1, 0, 2, 3, 4, 5] rfl
      refine s_storeSegs 3 2 (vss := [bv ((bs.drop 177).take 32), bv (((bs.drop 177).drop 32).take 32)]) hE rfl rfl hM rfl sz29 (by simp only [List.take_succ_cons, List.take_zero, List.drop_zero, List.drop_succ_cons]; simp only [List.map_cons, List.map_nil, bv_length, List.length_cons, List.length_nil, List.length_replicate, hsl329_0, hsl329_1]) (by decide) rfl (one_fl ⟨bv_one _, bv_one _, trivial⟩) rfl (by intro X h; cases h) ?_; intro w23 hM'; clear hM; have hM := hM'; clear hM'
      try simp only [List.take_zero, List.take_succ_cons, List.drop_zero, List.drop_succ_cons, List.take_nil, List.drop_nil, List.nil_append, List.append_nil, List.cons_append] at hM
      refine q_nil ?_
      replace hE : Env a 56 [(0, _), (2, _), (3, _), (4, _), (5, _), (6, _), (17, _), (18, _), (32, _), (33, _)] := hE.sel [0, 2, 3, 4, 5, 6, 17, 18, 32, 33] rfl
      refine hK24 _ _ ?_
      refine wp_plain [true, true, true, true, false] rfl rfl ?_
      refine s_move hE rfl rfl ?_; clear hE a; intro a hE
      refine s_loadN hE rfl (hM.get 0 rfl) row36 rfl (by intro X h; cases h) rfl ?_; clear hE a; intro a hE
      replace hE := hE.cast 51 rfl (show _ = Value.agg ([[.bool (decide (((val ((bs.drop 156).take 1) : Nat) : Int) = 1))], [.int .i64 ((val ((bs.drop 157).take 4) : Nat) : Int)], bv ((bs.drop 161).take 16), bv ((bs.drop 177).take 32), bv (((bs.drop 177).drop 32).take 32)] : List (List Value)).flatten.toArray from (by first | rfl | simp only [List.flatten_cons, List.flatten_nil, List.append_nil, List.append_assoc]))
      refine s_fieldAddr hE rfl fo39_2 rfl ?_; clear hE a; intro a hE
      refine s_indexArr (j := 0) hE rfl rfl arr37 rfl (by decide) rfl ?_; clear hE a; intro a hE
      have hsl343_2 : ((bs.drop 161).take 16).length = 16 := hlt45_2
      have hsl343_3 : ((bs.drop 177).take 32).length = 32 := (by have hl_q : (bs.drop 177).length = bs.length - 177 := (by simp; try omega); simp; try omega)
      have hsl343_4 : (((bs.drop 177).drop 32).take 32).length = 32 := (by have hl_q : (bs.drop 177).length = bs.length - 177 := (by simp; try omega); simp; try omega)
      replace hM : Mem _ _ w23 [_, _, _, _, _, _] := hM.pick [3, 0, 1, 2, 4, 5] rfl
      refine s_storeSegs 10 5 (vss := [[.bool (decide (((val ((bs.drop 156).take 1) : Nat) : Int) = 1))], [.int .i64 ((val ((bs.drop 157).take 4) : Nat) : Int)], bv ((bs.drop 161).take 16), bv ((bs.drop 177).take 32), bv (((bs.drop 177).drop 32).take 32)]) hE rfl rfl hM rfl sz36 (by simp only [List.take_succ_cons, List.take_zero, List.drop_zero, List.drop_succ_cons]; simp only [List.map_cons, List.map_nil, bv_length, List.length_cons, List.length_nil, List.length_replicate, hsl343_2, hsl343_3, hsl343_4]) (by decide) rfl (one_fl ⟨one1 rfl, one1 rfl, bv_one _, bv_one _, bv_one _, trivial⟩) rfl (by intro X h; cases h) ?_; intro w24 hM'; clear hM; have hM := hM'; clear hM'
      try simp only [List.take_zero, List.take_succ_cons, List.drop_zero, List.drop_succ_cons, List.take_nil, List.drop_nil, List.nil_append, List.append_nil, List.cons_append] at hM
      refine q_nil ?_
      replace hE : Env a 56 [(0, _), (2, _), (3, _), (4, _), (5, _), (6, _), (17, _), (18, _), (32, _), (33, _)] := hE.sel [0, 2, 3, 4, 5, 6, 17, 18, 32, 33] rfl
      refine q_block_n ?_
      refine hK20 _ _ ?_
      refine wp_plain [true, true] rfl rfl ?_
      refine s_bin hE rfl rfl (show Bin _ _ _ _ _ (.int .i64 1) from bin_add (by rw [wrap_i64 (by omega) (by omega)]; omega)) rfl ?_; clear hE a; intro a hE
      refine s_move hE rfl rfl ?_; clear hE a; intro a hE
      refine q_nil ?_
      replace hE : Env a 56 [(0, _), (2, _), (3, _), (4, _), (5, _), (6, _), (17, _), (18, _), (32, _), (33, _)] := hE.sel [0, 2, 3, 4, 5, 6, 17, 18, 32, 33] rfl
      replace hM : Mem _ _ w24 [_, _, _, _, _] := hM.pick [0, 1, 2, 4, 5] rfl
      refine q_then_n (c_rounds ?_)
      refine wp_seq_k (fun K25 hK25 => ?_)
      refine wp_plain [true] rfl rfl ?_
      refine s_bin hE rfl rfl bin_lss rfl ?_; clear hE a; intro a hE
      replace hE := hE.cast 33 rfl (show _ = Value.bool true from (congrArg Value.bool (by decide)))
      refine q_nil ?_
      refine hK25 _ _ ?_
      refine wp_seq_k (fun K26 hK26 => ?_)
      refine wp_cond_true (hE.eval rfl) ?_
      refine wp_skip ?_
      refine hK26 _ _ ?_
      refine wp_seq_k (fun K27 hK27 => ?_)
      refine wp_block ?_
      refine wp_seq_k (fun K28 hK28 => ?_)
      refine wp_plain [true, true] rfl rfl ?_
      refine s_move hE rfl rfl ?_; clear hE a; intro a hE
      refine s_assign hE rfl rfl ?_; clear hE a; intro a hE
      refine q_nil ?_
      replace hE : Env a 56 [(0, _), (2, _), (3, _), (4, _), (5, _), (6, _), (17, _), (18, _), (32, _), (33, _)] := hE.sel [0, 2, 3, 4, 5, 6, 17, 18, 32, 33] rfl
      refine hK28 _ _ ?_
      refine wp_seq_k (fun K29 hK29 => ?_)
      refine wp_plain [true, false, true, true, false, true, true, false, false] rfl rfl ?_
      refine s_move hE rfl rfl ?_; clear hE a; intro a hE
      replace hM : Mem _ _ w24 [_, _, _, _, _] := hM.pick [2, 0, 1, 3, 4] rfl
      refine s_call hE rfl Try.call42 (tapNum_ok tb bb (bs.drop 241) 1 _ (hM.get 0 rfl) rfl (by have hl_ : (bs.drop 241).length = bs.length - 241 := (by simp; try omega); first | omega | (simp; done) | (simp; omega))) rfl ?_
      rintro e w25 ⟨rfl, hN⟩
      refine ⟨_, rfl, trivial, ?_⟩; clear hE a; intro a hE
      replace hM : Mem _ _ w25 [_, _, _, _, _] := hM.call1 hN (fun f hf x hx => by rw [List.mem_singleton.1 hf] at hx; exact .inl hx); clear hN
      replace hM := hM.tapEq (q := bs.drop 242) (by first | (rw [List.drop_drop]; done) | (rw [List.drop_drop]; congr 1; omega))
      refine s_bin hE rfl rfl bin_eql rfl ?_; clear hE a; intro a hE
      refine s_move hE rfl rfl ?_; clear hE a; intro a hE
      refine s_call hE rfl Try.call42 (tapNum_ok tb bb (bs.drop 242) 4 _ (hM.get 0 rfl) rfl (by have hl_ : (bs.drop 242).length = bs.length - 242 := (by simp; try omega); first | omega | (simp; done) | (simp; omega))) rfl ?_
      rintro e w26 ⟨rfl, hN⟩
      refine ⟨_, rfl, trivial, ?_⟩; clear hE a; intro a hE
      replace hM : Mem _ _ w26 [_, _, _, _, _] := hM.call1 hN (fun f hf x hx => by rw [List.mem_singleton.1 hf] at hx; exact .inl hx); clear hN
      replace hM := hM.tapEq (q := bs.drop 246) (by first | (rw [List.drop_drop]; done) | (rw [List.drop_drop]; congr 1; omega))
      refine s_conv hE rfl (cnv_int Try.underlying24 Try.underlying3 (wrap_i64 (by omega) (by omega))) rfl ?_; clear hE a; intro a hE
      refine s_buildS [[.bool (decide (((val ((bs.drop 241).take 1) : Nat) : Int) = 1))], [.int .i64 ((val ((bs.drop 242).take 4) : Nat) : Int)]] hE rfl zero36 (by kernel_rfl) fpl36 (by first | (simp [PartsOk, Value.cells]; done) | (simp [PartsOk, Value.cells]; omega)) rfl ?_; clear hE a; intro a hE
      replace hE := hE.cast 41 rfl (show _ = Value.agg ([[.bool (decide (((val ((bs.drop 241).take 1) : Nat) : Int) = 1))], [.int .i64 ((val ((bs.drop 242).take 4) : Nat) : Int)], bv (List.replicate 16 (0 : UInt8)), bv (List.replicate 32 (0 : UInt8)), bv (List.replicate 32 (0 : UInt8))] : List (List Value)).flatten.toArray from (by first | rfl | simp [setAll] | (simp only [setAll, List.set_cons_zero, List.set_cons_succ, List.flatten_cons, List.flatten_nil, List.append_nil, List.append_assoc, List.replicate_succ, List.replicate_zero])))
      refine s_alloc [1, 1, 16, 32, 32] hE hM zeroL36 rfl rfl ?_; clear hE a; intro a b6 w27 hE hM'
      clear hM; have hM := hM'; clear hM'
      have hsl400_2 : (List.replicate 16 (0 : UInt8)).length = 16 := List.length_replicate
      have hsl400_3 : (List.replicate 32 (0 : UInt8)).length = 32 := List.length_replicate
      have hsl400_4 : (List.replicate 32 (0 : UInt8)).length = 32 := List.length_replicate
      replace hM : Mem _ _ w27 [_, _, _, _, _] := hM.pick [0, 1, 2, 4, 5] rfl
      refine s_storeSegs 0 5 (vss := [[.bool (decide (((val ((bs.drop 241).take 1) : Nat) : Int) = 1))], [.int .i64 ((val ((bs.drop 242).take 4) : Nat) : Int)], bv (List.replicate 16 (0 : UInt8)), bv (List.replicate 32 (0 : UInt8)), bv (List.replicate 32 (0 : UInt8))]) hE rfl rfl hM rfl sz36 (by simp only [List.take_succ_cons, List.take_zero, List.drop_zero, List.drop_succ_cons]; simp only [List.map_cons, List.map_nil, bv_length, List.length_cons, List.length_nil, List.length_replicate, hsl400_2, hsl400_3, hsl400_4]) (by decide) rfl (one_fl ⟨one1 rfl, one1 rfl, bv_one _, bv_one _, bv_one _, trivial⟩) rfl (by intro X h; cases h) ?_; intro w28 hM'; clear hM; have hM := hM'; clear hM'
      try simp only [List.take_zero, List.take_succ_cons, List.drop_zero, List.drop_succ_cons, List.take_nil, List.drop_nil, List.nil_append, List.append_nil, List.cons_append] at hM
      refine q_nil ?_
      replace hE : Env a 56 [(0, _), (2, _), (3, _), (4, _), (5, _), (6, _), (17, _), (18, _), (32, _), (33, _)] := hE.sel [0, 2, 3, 4, 5, 6, 17, 18, 32, 33] rfl
      refine hK29 _ _ ?_
      refine wp_seq_k (fun K30 hK30 => ?_)
      refine wp_treeM hM (by kernel_rfl) (fun _ => True) (fun _ => True) (.re [(0, true), (1, true), (2, true), (3, false), (4, false)] (.fl 3 (.fl 0 (.weak (.or 3 (.cut (.re [(4, false)] (.fl 0 (.fl 0 (.weak (.or 4 (.cut (.re [] (.weak (.leaf 0)))) (.stop))))))) (.stop)))))) [(0, true), (1, true), (2, true), (3, false), (4, false)] [(0, [(1, 0), (4, 1)]), (1, [(4, 1)]), (3, [(4, 3)]), (4, [])] (by kernel_rfl) ?_
      intro w29 hM' hww29; clear hM; have hM := hM'; clear hM'
      refine o_re ?_
      refine o_fl rfl ?_
      refine s_fieldAddr hE rfl fo36_2 rfl ?_; clear hE a; intro a hE
      refine s_sliceArr (l := 0) (h := 16) (mx' := 16) hE rfl arr34 rfl rfl rfl (by simp) (by omega) (by omega) (by omega) rfl ?_; clear hE a; intro a hE
      replace hE := hE.cast 43 rfl (show _ = Value.slice (some ⟨b6, 2, none⟩) 16 16 from rfl)
      refine s_move hE rfl rfl ?_; clear hE a; intro a hE
      refine q_nil (q_nx ?_)
      refine o_fl rfl ?_
      refine q_nil (q_nx ?_)
      refine o_weak (fun b => b ∈ [tb]) (fun _ _ => trivial) ?_
      refine o_or rfl ?_ ?_
      · replace hM : Mem _ _ w29 [_, _, _, _, _] := hM.pick [1, 0, 2, 3, 4] rfl
        have hlt45_3 : ((bs.drop 246).take 16).length = 16 := (by have hl_q : (bs.drop 246).length = bs.length - 246 := (by simp; try omega); simp; try omega)
        refine s_call hE rfl Try.call41 (tapBytes_ok tb bb (bs.drop 246) 16 _ (hM.get 0 rfl) (by have hl_ : (bs.drop 246).length = bs.length - 246 := (by simp; try omega); first | omega | (simp; done) | (simp; omega))) rfl ?_
        rintro e w30 ⟨v45, rfl, hvt45_3, hN⟩
        refine ⟨_, rfl, hN.sta, ?_⟩; clear hE a; intro a hE
        replace hM : Mem _ _ w30 [_, _, _, _, _, _] := hM.call1 hN (fun f hf x hx => (List.mem_cons.1 hf).elim (fun h => by subst h; exact .inl (hvt45_3 x (by first | exact hx | (rw [hlt45_3] at hx; exact hx)))) (fun h => by rw [List.mem_singleton.1 h] at hx; exact .inl hx)); clear hN
        replace hM : Mem _ _ w30 [_, _, _, _, _, _] := hM.pick [1, 0, 2, 3, 4, 5] rfl
        replace hM := hM.tapEq (q := bs.drop 262) (by first | (rw [List.drop_drop]; done) | (rw [List.drop_drop]; congr 1; omega))
        refine q_nil (q_nx ?_)
        refine o_cut (fun _ => True) ?_
        refine o_re ?_
        refine o_fl rfl ?_
        refine q_nil (q_nx ?_)
        refine o_fl rfl ?_
        refine q_nil (q_nx ?_)
        refine o_weak (fun b => b = b6) (fun _ _ => trivial) ?_
        refine o_or rfl ?_ ?_
        · replace hM : Mem _ _ w30 [_, _, _, _, _, _] := hM.pick [2, 0, 1, 3, 4, 5] rfl
          refine s_copySeg 2 hE rfl rfl hM (hM.get 2 rfl) hlt45_3 (bv_one _) sl55 rfl ((bv_length _).trans List.length_replicate) rfl (by intro X h; cases h; rfl) rfl ?_; clear hE a; intro a w31 hE hM'; clear hM; have hM := hM'; clear hM'
          simp only [List.set_cons_zero, List.set_cons_succ] at hM
          refine q_nil (q_nx ?_)
          refine o_cut (fun _ => True) ?_
          refine o_re ?_
          refine o_weak (fun _ => False) (fun _ _ => trivial) ?_
          refine o_leaf rfl rfl ?_
          refine q_nil (q_ph (q_nil ?_))
          replace hE : Env a 56 [(0, _), (2, _), (3, _), (4, _), (5, _), (6, _), (17, _), (18, _), (32, _), (33, _)] := hE.sel [0, 2, 3, 4, 5, 6, 17, 18, 32, 33] rfl
          refine hK30 _ _ ?_
          refine wp_seq_k (fun K31 hK31 => ?_)
          refine wp_plain [true, false, true, false] rfl rfl ?_
          refine s_move hE rfl rfl ?_; clear hE a; intro a hE
          replace hM : Mem _ _ w31 [_, _, _, _, _, _] := hM.pick [1, 0, 2, 3, 4, 5] rfl
          refine s_call hE rfl Try.call43 (hwrapped_c tb bb (bs.drop 262) _ (hM.get 0 rfl) (by have hl_ : (bs.drop 262).length = bs.length - 262 := (by simp; try omega); first | omega | (simp; done) | (simp; omega)) (by have hl_ : (bs.drop 262).length = bs.length - 262 := (by simp; try omega); first | omega | (simp; done) | (simp; omega))) rfl ?_
          rintro e w32 ⟨rfl, hN⟩
          refine ⟨_, rfl, trivial, ?_⟩; clear hE a; intro a hE
          replace hM : Mem _ _ w32 [_, _, _, _, _, _] := hM.call1 hN (fun f hf x hx => by rw [List.mem_singleton.1 hf] at hx; exact .inl hx); clear hN
          replace hM := hM.tapEq (q := bs.drop 326) (by first | (rw [List.drop_drop]; done) | (rw [List.drop_drop]; congr 1; omega))
          refine s_fieldAddr hE rfl fo36_3 rfl ?_; clear hE a; intro a hE
          have hsl461_0 : ((bs.drop 262).take 32).length = 32 := (by have hl_q : (bs.drop 262).length = bs.length - 262 := (by simp; try omega); simp; try omega)
          have hsl461_1 : (((bs.drop 262).drop 32).take 32).length = 32 := (by have hl_q : (bs.drop 262).length = bs.length - 262 := (by simp; try omega); simp; try omega)
          replace hM : Mem _ _ w32 [_, _, _, _, _, _] := hM.pick [1, 0, 2, 3, 4, 5] rfl
          refine s_storeSegs 3 2 (vss := [bv ((bs.drop 262).take 32), bv (((bs.drop 262).drop 32).take 32)]) hE rfl rfl hM rfl sz29 (by simp only [List.take_succ_cons, List.take_zero, List.drop_zero, List.drop_succ_cons]; simp only [List.map_cons, List.map_nil, bv_length, List.length_cons, List.length_nil, List.length_replicate, hsl461_0, hsl461_1]) (by decide) rfl (one_fl ⟨bv_one _, bv_one _, trivial⟩) rfl (by intro X h; cases h) ?_; intro w33 hM'; clear hM; have hM := hM'; clear hM'
          try simp only [List.take_zero, List.take_succ_cons, List.drop_zero, List.drop_succ_cons, List.take_nil, List.drop_nil, List.nil_append, List.append_nil, List.cons_append] at hM
          refine q_nil ?_
          replace hE : Env a 56 [(0, _), (2, _), (3, _), (4, _), (5, _), (6, _), (17, _), (18, _), (32, _), (33, _)] := hE.sel [0, 2, 3, 4, 5, 6, 17, 18, 32, 33] rfl
          refine hK31 _ _ ?_
          refine wp_plain [true, true, true, true, false] rfl rfl ?_
          refine s_move hE rfl rfl ?_; clear hE a; intro a hE
          refine s_loadN hE rfl (hM.get 0 rfl) row36 rfl (by intro X h; cases h) rfl ?_; clear hE a; intro a hE
          replace hE := hE.cast 51 rfl (show _ = Value.agg ([[.bool (decide (((val ((bs.drop 241).take 1) : Nat) : Int) = 1))], [.int .i64 ((val ((bs.drop 242).take 4) : Nat) : Int)], bv ((bs.drop 246).take 16), bv ((bs.drop 262).take 32), bv (((bs.drop 262).drop 32).take 32)] : List (List Value)).flatten.toArray from (by first | rfl | simp only [List.flatten_cons, List.flatten_nil, List.append_nil, List.append_assoc]))
          refine s_fieldAddr hE rfl fo39_2 rfl ?_; clear hE a; intro a hE
          refine s_indexArr (j := 1) hE rfl rfl arr37 rfl (by decide) rfl ?_; clear hE a; intro a hE
          have hsl475_2 : ((bs.drop 246).take 16).length = 16 := hlt45_3
          have hsl475_3 : ((bs.drop 262).take 32).length = 32 := (by have hl_q : (bs.drop 262).length = bs.length - 262 := (by simp; try omega); simp; try omega)
          have hsl475_4 : (((bs.drop 262).drop 32).take 32).length = 32 := (by have hl_q : (bs.drop 262).length = bs.length - 262 := (by simp; try omega); simp; try omega)
          replace hM : Mem _ _ w33 [_, _, _, _, _, _] := hM.pick [3, 0, 1, 2, 4, 5] rfl
          refine s_storeSegs 15 5 (vss := [[.bool (decide (((val ((bs.drop 241).take 1) : Nat) : Int) = 1))], [.int .i64 ((val ((bs.drop 242).take 4) : Nat) : Int)], bv ((bs.drop 246).take 16), bv ((bs.drop 262).take 32), bv (((bs.drop 262).drop 32).take 32)]) hE rfl rfl hM rfl sz36 (by simp only [List.take_succ_cons, List.take_zero, List.drop_zero, List.drop_succ_cons]; simp only [List.map_cons, List.map_nil, bv_length, List.length_cons, List.length_nil, List.length_replicate, hsl475_2, hsl475_3, hsl475_4]) (by decide) rfl (one_fl ⟨one1 rfl, one1 rfl, bv_one _, bv_one _, bv_one _, trivial⟩) rfl (by intro X h; cases h) ?_; intro w34 hM'; clear hM; have hM := hM'; clear hM'
          try simp only [List.take_zero, List.take_succ_cons, List.drop_zero, List.drop_succ_cons, List.take_nil, List.drop_nil, List.nil_append, List.append_nil, List.cons_append] at hM
          refine q_nil ?_
          replace hE : Env a 56 [(0, _), (2, _), (3, _), (4, _), (5, _), (6, _), (17, _), (18, _), (32, _), (33, _)] := hE.sel [0, 2, 3, 4, 5, 6, 17, 18, 32, 33] rfl
          refine q_block_n ?_
          refine hK27 _ _ ?_
          refine wp_plain [true, true] rfl rfl ?_
          refine s_bin hE rfl rfl (show Bin _ _ _ _ _ (.int .i64 2) from bin_add (by rw [wrap_i64 (by omega) (by omega)]; omega)) rfl ?_; clear hE a; intro a hE
          refine s_move hE rfl rfl ?_; clear hE a; intro a hE
          refine q_nil ?_
          replace hE : Env a 56 [(0, _), (2, _), (3, _), (4, _), (5, _), (6, _), (17, _), (18, _), (32, _), (33, _)] := hE.sel [0, 2, 3, 4, 5, 6, 17, 18, 32, 33] rfl
          replace hM : Mem _ _ w34 [_, _, _, _, _] := hM.pick [0, 1, 2, 4, 5] rfl
          refine q_then_n (c_rounds ?_)
          refine wp_seq_k (fun K32 hK32 => ?_)
          refine wp_plain [true] rfl rfl ?_
          refine s_bin hE rfl rfl bin_lss rfl ?_; clear hE a; intro a hE
          replace hE := hE.cast 33 rfl (show _ = Value.bool true from (congrArg Value.bool (by decide)))
          refine q_nil ?_
          refine hK32 _ _ ?_
          refine wp_seq_k (fun K33 hK33 => ?_)
          refine wp_cond_true (hE.eval rfl) ?_
          refine wp_skip ?_
          refine hK33 _ _ ?_
          refine wp_seq_k (fun K34 hK34 => ?_)
          refine wp_block ?_
          refine wp_seq_k (fun K35 hK35 => ?_)
          refine wp_plain [true, true] rfl rfl ?_
          refine s_move hE rfl rfl ?_; clear hE a; intro a hE
          refine s_assign hE rfl rfl ?_; clear hE a; intro a hE
          refine q_nil ?_
          replace hE : Env a 56 [(0, _), (2, _), (3, _), (4, _), (5, _), (6, _), (17, _), (18, _), (32, _), (33, _)] := hE.sel [0, 2, 3, 4, 5, 6, 17, 18, 32, 33] rfl
          refine hK35 _ _ ?_
          refine wp_seq_k (fun K36 hK36 => ?_)
          refine wp_plain [true, false, true, true, false, true, true, false, false] rfl rfl ?_
          refine s_move hE rfl rfl ?_; clear hE a; intro a hE
          replace hM : Mem _ _ w34 [_, _, _, _, _] := hM.pick [2, 0, 1, 3, 4] rfl
          refine s_call hE rfl Try.call42 (tapNum_ok tb bb (bs.drop 326) 1 _ (hM.get 0 rfl) rfl (by have hl_ : (bs.drop 326).length = bs.length - 326 := (by simp; try omega); first | omega | (simp; done) | (simp; omega))) rfl ?_
          rintro e w35 ⟨rfl, hN⟩
          refine ⟨_, rfl, trivial, ?_⟩; clear hE a; intro a hE
          replace hM : Mem _ _ w35 [_, _, _, _, _] := hM.call1 hN (fun f hf x hx => by rw [List.mem_singleton.1 hf] at hx; exact .inl hx); clear hN
          replace hM := hM.tapEq (q := bs.drop 327) (by first | (rw [List.drop_drop]; done) | (rw [List.drop_drop]; congr 1; omega))
          refine s_bin hE rfl rfl bin_eql rfl ?_; clear hE a; intro a hE
          refine s_move hE rfl rfl ?_; clear hE a; intro a hE
          refine s_call hE rfl Try.call42 (tapNum_ok tb bb (bs.drop 327) 4 _ (hM.get 0 rfl) rfl (by have hl_ : (bs.drop 327).length = bs.length - 327 := (by simp; try omega); first | omega | (simp; done) | (simp; omega))) rfl ?_
          rintro e w36 ⟨rfl, hN⟩
          refine ⟨_, rfl, trivial, ?_⟩; clear hE a; intro a hE
          replace hM : Mem _ _ w36 [_, _, _, _, _] := hM.call1 hN (fun f hf x hx => by rw [List.mem_singleton.1 hf] at hx; exact .inl hx); clear hN
          replace hM := hM.tapEq (q := bs.drop 331) (by first | (rw [List.drop_drop]; done) | (rw [List.drop_drop]; congr 1; omega))
          refine s_conv hE rfl (cnv_int Try.underlying24 Try.underlying3 (wrap_i64 (by omega) (by omega))) rfl ?_; clear hE a; intro a hE
          refine s_buildS [[.bool (decide (((val ((bs.drop 326).take 1) : Nat) : Int) = 1))], [.int .i64 ((val ((bs.drop 327).take 4) : Nat) : Int)]] hE rfl zero36 (by kernel_rfl) fpl36 (by first | (simp [PartsOk, Value.cells]; done) | (simp [PartsOk, Value.cells]; omega)) rfl ?_; clear hE a; intro a hE
          replace hE := hE.cast 41 rfl (show _ = Value.agg ([[.bool (decide (((val ((bs.drop 326).take 1) : Nat) : Int) = 1))], [.int .i64 ((val ((bs.drop 327).take 4) : Nat) : Int)], bv (List.replicate 16 (0 : UInt8)), bv (List.replicate 32 (0 : UInt8)), bv (List.replicate 32 (0 : UInt8))] : List (List Value)).flatten.toArray from (by first | rfl | simp [setAll] | (simp only [setAll, List.set_cons_zero, List.set_cons_succ, List.flatten_cons, List.flatten_nil, List.append_nil, List.append_assoc, List.replicate_succ, List.replicate_zero])))
          refine s_alloc [1, 1, 16, 32, 32] hE hM zeroL36 rfl rfl ?_; clear hE a; intro a b6 w37 hE hM'
          clear hM; have hM := hM'; clear hM'
          have hsl532_2 : (List.replicate 16 (0 : UInt8)).length = 16 := List.length_replicate
          have hsl532_3 : (List.replicate 32 (0 : UInt8)).length = 32 := List.length_replicate
          have hsl532_4 : (List.replicate 32 (0 : UInt8)).length = 32 := List.length_replicate
          replace hM : Mem _ _ w37 [_, _, _, _, _] := hM.pick [0, 1, 2, 4, 5] rfl
          refine s_storeSegs 0 5 (vss := [[.bool (decide (((val ((bs.drop 326).take 1) : Nat) : Int) = 1))], [.int .i64 ((val ((bs.drop 327).take 4) : Nat) : Int)], bv (List.replicate 16 (0 : UInt8)), bv (List.replicate 32 (0 : UInt8)), bv (List.replicate 32 (0 : UInt8))]) hE rfl rfl hM rfl sz36 (by simp only [List.take_succ_cons, List.take_zero, List.drop_zero, List.drop_succ_cons]; simp only [List.map_cons, List.map_nil, bv_length, List.length_cons, List.length_nil, List.length_replicate, hsl532_2, hsl532_3, hsl532_4]) (by decide) rfl (one_fl ⟨one1 rfl, one1 rfl, bv_one _, bv_one _, bv_one _, trivial⟩) rfl (by intro X h; cases h) ?_; intro w38 hM'; clear hM; have hM := hM'; clear hM'
          try simp only [List.take_zero, List.take_succ_cons, List.drop_zero, List.drop_succ_cons, List.take_nil, List.drop_nil, List.nil_append, List.append_nil, List.cons_append] at hM
          refine q_nil ?_
          replace hE : Env a 56 [(0, _), (2, _), (3, _), (4, _), (5, _), (6, _), (17, _), (18, _), (32, _), (33, _)] := hE.sel [0, 2, 3, 4, 5, 6, 17, 18, 32, 33] rfl
          refine hK36 _ _ ?_
          refine wp_seq_k (fun K37 hK37 => ?_)
          refine wp_treeM hM (by kernel_rfl) (fun _ => True) (fun _ => True) (.re [(0, true), (1, true), (2, true), (3, false), (4, false)] (.fl 3 (.fl 0 (.weak (.or 3 (.cut (.re [(4, false)] (.fl 0 (.fl 0 (.weak (.or 4 (.cut (.re [] (.weak (.leaf 0)))) (.stop))))))) (.stop)))))) [(0, true), (1, true), (2, true), (3, false), (4, false)] [(0, [(1, 0), (4, 1)]), (1, [(4, 1)]), (3, [(4, 3)]), (4, [])] (by kernel_rfl) ?_
          intro w39 hM' hww39; clear hM; have hM := hM'; clear hM'
          refine o_re ?_
          refine o_fl rfl ?_
          refine s_fieldAddr hE rfl fo36_2 rfl ?_; clear hE a; intro a hE
          refine s_sliceArr (l := 0) (h := 16) (mx' := 16) hE rfl arr34 rfl rfl rfl (by simp) (by omega) (by omega) (by omega) rfl ?_; clear hE a; intro a hE
          replace hE := hE.cast 43 rfl (show _ = Value.slice (some ⟨b6, 2, none⟩) 16 16 from rfl)
          refine s_move hE rfl rfl ?_; clear hE a; intro a hE
          refine q_nil (q_nx ?_)
          refine o_fl rfl ?_
          refine q_nil (q_nx ?_)
          refine o_weak (fun b => b ∈ [tb]) (fun _ _ => trivial) ?_
          refine o_or rfl ?_ ?_
          · replace hM : Mem _ _ w39 [_, _, _, _, _] := hM.pick [1, 0, 2, 3, 4] rfl
            have hlt45_4 : ((bs.drop 331).take 16).length = 16 := (by have hl_q : (bs.drop 331).length = bs.length - 331 := (by simp; try omega); simp; try omega)
            refine s_call hE rfl Try.call41 (tapBytes_ok tb bb (bs.drop 331) 16 _ (hM.get 0 rfl) (by have hl_ : (bs.drop 331).length = bs.length - 331 := (by simp; try omega); first | omega | (simp; done) | (simp; omega))) rfl ?_
            rintro e w40 ⟨v45, rfl, hvt45_4, hN⟩
            refine ⟨_, rfl, hN.sta, ?_⟩; clear hE a; intro a hE
            replace hM : Mem _ _ w40 [_, _, _, _, _, _] := hM.call1 hN (fun f hf x hx => (List.mem_cons.1 hf).elim (fun h => by subst h; exact .inl (hvt45_4 x (by first | exact hx | (rw [hlt45_4] at hx; exact hx)))) (fun h => by rw [List.mem_singleton.1 h] at hx; exact .inl hx)); clear hN
            replace hM : Mem _ _ w40 [_, _, _, _, _, _] := hM.pick [1, 0, 2, 3, 4, 5] rfl
            replace hM := hM.tapEq (q := bs.drop 347) (by first | (rw [List.drop_drop]; done) | (rw [List.drop_drop]; congr 1; omega))
            refine q_nil (q_nx ?_)
            refine o_cut (fun _ => True) ?_
            refine o_re ?_
            refine o_fl rfl ?_
            refine q_nil (q_nx ?_)
            refine o_fl rfl ?_
            refine q_nil (q_nx ?_)
            refine o_weak (fun b => b = b6) (fun _ _ => trivial) ?_
            refine o_or rfl ?_ ?_
            · replace hM : Mem _ _ w40 [_, _, _, _, _, _] := hM.pick [2, 0, 1, 3, 4, 5] rfl
              refine s_copySeg 2 hE rfl rfl hM (hM.get 2 rfl) hlt45_4 (bv_one _) sl55 rfl ((bv_length _).trans List.length_replicate) rfl (by intro X h; cases h; rfl) rfl ?_; clear hE a; intro a w41 hE hM'; clear hM; have hM := hM'; clear hM'
              simp only [List.set_cons_zero, List.set_cons_succ] at hM
              refine q_nil (q_nx ?_)
              refine o_cut (fun _ => True) ?_
              refine o_re ?_
              refine o_weak (fun _ => False) (fun _ _ => trivial) ?_
              refine o_leaf rfl rfl ?_
              refine q_nil (q_ph (q_nil ?_))
              replace hE : Env a 56 [(0, _), (2, _), (3, _), (4, _), (5, _), (6, _), (17, _), (18, _), (32, _), (33, _)] := hE.sel [0, 2, 3, 4, 5, 6, 17, 18, 32, 33] rfl
              refine hK37 _ _ ?_
              refine wp_seq_k (fun K38 hK38 => ?_)
              refine wp_plain [true, false, true, false] rfl rfl ?_
              refine s_move hE rfl rfl ?_; clear hE a; intro a hE
              replace hM : Mem _ _ w41 [_, _, _, _, _, _] := hM.pick [1, 0, 2, 3, 4, 5] rfl
              refine s_call hE rfl Try.call43 (hwrapped_c tb bb (bs.drop 347) _ (hM.get 0 rfl) (by have hl_ : (bs.drop 347).length = bs.length - 347 := (by simp; try omega); first | omega | (simp; done) | (simp; omega)) (by have hl_ : (bs.drop 347).length = bs.length - 347 := (by simp; try omega); first | omega | (simp; done) | (simp; omega))) rfl ?_
              rintro e w42 ⟨rfl, hN⟩
              refine ⟨_, rfl, trivial, ?_⟩; clear hE a; intro a hE
              replace hM : Mem _ _ w42 [_, _, _, _, _, _] := hM.call1 hN (fun f hf x hx => by rw [List.mem_singleton.1 hf] at hx; exact .inl hx); clear hN
              replace hM := hM.tapEq (q := bs.drop 411) (by first | (rw [List.drop_drop]; done) | (rw [List.drop_drop]; congr 1; omega))
              refine s_fieldAddr hE rfl fo36_3 rfl ?_; clear hE a; intro a hE
              have hsl593_0 : ((bs.drop 347).take 32).length = 32 := (by have hl_q : (bs.drop 347).length = bs.length - 347 := (by simp; try omega); simp; try omega)
              have hsl593_1 : (((bs.drop 347).drop 32).take 32).length = 32 := (by have hl_q : (bs.drop 347).length = bs.length - 347 := (by simp; try omega); simp; try omega)
              replace hM : Mem _ _ w42 [_, _, _, _, _, _] := hM.pick [1, 0, 2, 3, 4, 5] rfl
              refine s_storeSegs 3 2 (vss := [bv ((bs.drop 347).take 32), bv (((bs.drop 347).drop 32).take 32)]) hE rfl rfl hM rfl sz29 (by simp only [List.take_succ_cons, List.take_zero, List.drop_zero, List.drop_succ_cons]; simp only [List.map_cons, List.map_nil, bv_length, List.length_cons, List.length_nil, List.length_replicate, hsl593_0, hsl593_1]) (by decide) rfl (one_fl ⟨bv_one _, bv_one _, trivial⟩) rfl (by intro X h; cases h) ?_; intro w43 hM'; clear hM; have hM := hM'; clear hM'
              try simp only [List.take_zero, List.take_succ_cons, List.drop_zero, List.drop_succ_cons, List.take_nil, List.drop_nil, List.nil_append, List.append_nil, List.cons_append] at hM
              refine q_nil ?_
              replace hE : Env a 56 [(0, _), (2, _), (3, _), (4, _), (5, _), (6, _), (17, _), (18, _), (32, _), (33, _)] := hE.sel [0, 2, 3, 4, 5, 6, 17, 18, 32, 33] rfl
              refine hK38 _ _ ?_
              refine wp_plain [true, true, true, true, false] rfl rfl ?_
              refine s_move hE rfl rfl ?_; clear hE a; intro a hE
              refine s_loadN hE rfl (hM.get 0 rfl) row36 rfl (by intro X h; cases h) rfl ?_; clear hE a; intro a hE
              replace hE := hE.cast 51 rfl (show _ = Value.agg ([[.bool (decide (((val ((bs.drop 326).take 1) : Nat) : Int) = 1))], [.int .i64 ((val ((bs.drop 327).take 4) : Nat) : Int)], bv ((bs.drop 331).take 16), bv ((bs.drop 347).take 32), bv (((bs.drop 347).drop 32).take 32)] : List (List Value)).flatten.toArray from (by first | rfl | simp only [List.flatten_cons, List.flatten_nil, List.append_nil, List.append_assoc]))
              refine s_fieldAddr hE rfl fo39_2 rfl ?_; clear hE a; intro a hE
              refine s_indexArr (j := 2) hE rfl rfl arr37 rfl (by decide) rfl ?_; clear hE a; intro a hE
              have hsl607_2 : ((bs.drop 331).take 16).length = 16 := hlt45_4
              have hsl607_3 : ((bs.drop 347).take 32).length = 32 := (by have hl_q : (bs.drop 347).length = bs.length - 347 := (by simp; try omega); simp; try omega)
              have hsl607_4 : (((bs.drop 347).drop 32).take 32).length = 32 := (by have hl_q : (bs.drop 347).length = bs.length - 347 := (by simp; try omega); simp; try omega)
              replace hM : Mem _ _ w43 [_, _, _, _, _, _] := hM.pick [3, 0, 1, 2, 4, 5] rfl
              refine s_storeSegs 20 5 (vss := [[.bool (decide (((val ((bs.drop 326).take 1) : Nat) : Int) = 1))], [.int .i64 ((val ((bs.drop 327).take 4) : Nat) : Int)], bv ((bs.drop 331).take 16), bv ((bs.drop 347).take 32), bv (((bs.drop 347).drop 32).take 32)]) hE rfl rfl hM rfl sz36 (by simp only [List.take_succ_cons, List.take_zero, List.drop_zero, List.drop_succ_cons]; simp only [List.map_cons, List.map_nil, bv_length, List.length_cons, List.length_nil, List.length_replicate, hsl607_2, hsl607_3, hsl607_4]) (by decide) rfl (one_fl ⟨one1 rfl, one1 rfl, bv_one _, bv_one _, bv_one _, trivial⟩) rfl (by intro X h; cases h) ?_; intro w44 hM'; clear hM; have hM := hM'; clear hM'
              try simp only [List.take_zero, List.take_succ_cons, List.drop_zero, List.drop_succ_cons, List.take_nil, List.drop_nil, List.nil_append, List.append_nil, List.cons_append] at hM
              refine q_nil ?_
              replace hE : Env a 56 [(0, _), (2, _), (3, _), (4, _), (5, _), (6, _), (17, _), (18, _), (32, _), (33, _)] := hE.sel [0, 2, 3, 4, 5, 6, 17, 18, 32, 33] rfl
              refine q_block_n ?_
              refine hK34 _ _ ?_
              refine wp_plain [true, true] rfl rfl ?_
              refine s_bin hE rfl rfl (show Bin _ _ _ _ _ (.int .i64 3) from bin_add (by rw [wrap_i64 (by omega) (by omega)]; omega)) rfl ?_; clear hE a; intro a hE
              refine s_move hE rfl rfl ?_; clear hE a; intro a hE
              refine q_nil ?_
              replace hE : Env a 56 [(0, _), (2, _), (3, _), (4, _), (5, _), (6, _), (17, _), (18, _), (32, _), (33, _)] := hE.sel [0, 2, 3, 4, 5, 6, 17, 18, 32, 33] rfl
              replace hM : Mem _ _ w44 [_, _, _, _, _] := hM.pick [0, 1, 2, 4, 5] rfl
              refine q_then_n (c_rounds ?_)
              refine wp_seq_k (fun K39 hK39 => ?_)
              refine wp_plain [true] rfl rfl ?_
              refine s_bin hE rfl rfl bin_lss rfl ?_; clear hE a; intro a hE
              replace hE := hE.cast 33 rfl (show _ = Value.bool true from (congrArg Value.bool (by decide)))
              refine q_nil ?_
              refine hK39 _ _ ?_
              refine wp_seq_k (fun K40 hK40 => ?_)
              refine wp_cond_true (hE.eval rfl) ?_
              refine wp_skip ?_
              refine hK40 _ _ ?_
              refine wp_seq_k (fun K41 hK41 => ?_)
              refine wp_block ?_
              refine wp_seq_k (fun K42 hK42 => ?_)
              refine wp_plain [true, true] rfl rfl ?_
              refine s_move hE rfl rfl ?_; clear hE a; intro a hE
              refine s_assign hE rfl rfl ?_; clear hE a; intro a hE
              refine q_nil ?_
              replace hE : Env a 56 [(0, _), (2, _), (3, _), (4, _), (5, _), (6, _), (17, _), (18, _), (32, _), (33, _)] := hE.sel [0, 2, 3, 4, 5, 6, 17, 18, 32, 33] rfl
              refine hK42 _ _ ?_
              refine wp_seq_k (fun K43 hK43 => ?_)
              refine wp_plain [true, false, true, true, false, true, true, false, false] rfl rfl ?_
              refine s_move hE rfl rfl ?_; clear hE a; intro a hE
              replace hM : Mem _ _ w44 [_, _, _, _, _] := hM.pick [2, 0, 1, 3, 4] rfl
              refine s_call hE rfl Try.call42 (tapNum_ok tb bb (bs.drop 411) 1 _ (hM.get 0 rfl) rfl (by have hl_ : (bs.drop 411).length = bs.length - 411 := (by simp; try omega); first | omega | (simp; done) | (simp; omega))) rfl ?_
              rintro e w45 ⟨rfl, hN⟩
              refine ⟨_, rfl, trivial, ?_⟩; clear hE a; intro a hE
              replace hM : Mem _ _ w45 [_, _, _, _, _] := hM.call1 hN (fun f hf x hx => by rw [List.mem_singleton.1 hf] at hx; exact .inl hx); clear hN
              replace hM := hM.tapEq (q := bs.drop 412) (by first | (rw [List.drop_drop]; done) | (rw [List.drop_drop]; congr 1; omega))
              refine s_bin hE rfl rfl bin_eql rfl ?_; clear hE a; intro a hE
              refine s_move hE rfl rfl ?_; clear hE a; intro a hE
              refine s_call hE rfl Try.call42 (tapNum_ok tb bb (bs.drop 412) 4 _ (hM.get 0 rfl) rfl (by have hl_ : (bs.drop 412).length = bs.length - 412 := (by simp; try omega); first | omega | (simp; done) | (simp; omega))) rfl ?_
              rintro e w46 ⟨rfl, hN⟩
              refine ⟨_, rfl, trivial, ?_⟩; clear hE a; intro a hE
              replace hM : Mem _ _ w46 [_, _, _, _, _] := hM.call1 hN (fun f hf x hx => by rw [List.mem_singleton.1 hf] at hx; exact .inl hx); clear hN
              replace hM := hM.tapEq (q := bs.drop 416) (by first | (rw [List.drop_drop]; done) | (rw [List.drop_drop]; congr 1; omega))
              refine s_conv hE rfl (cnv_int Try.underlying24 Try.underlying3 (wrap_i64 (by omega) (by omega))) rfl ?_; clear hE a; intro a hE
              refine s_buildS [[.bool (decide (((val ((bs.drop 411).take 1) : Nat) : Int) = 1))], [.int .i64 ((val ((bs.drop 412).take 4) : Nat) : Int)]] hE rfl zero36 (by kernel_rfl) fpl36 (by first | (simp [PartsOk, Value.cells]; done) | (simp [PartsOk, Value.cells]; omega)) rfl ?_; clear hE a; intro a hE
              replace hE := hE.cast 41 rfl (show _ = Value.agg ([[.bool (decide (((val ((bs.drop 411).take 1) : Nat) : Int) = 1))], [.int .i64 ((val ((bs.drop 412).take 4) : Nat) : Int)], bv (List.replicate 16 (0 : UInt8)), bv (List.replicate 32 (0 : UInt8)), bv (List.replicate 32 (0 : UInt8))] : List (List Value)).flatten.toArray from (by first | rfl | simp [setAll] | (simp only [setAll, List.set_cons_zero, List.set_cons_succ, List.flatten_cons, List.flatten_nil, List.append_nil, List.append_assoc, List.replicate_succ, List.replicate_zero])))
              refine s_alloc [1, 1, 16, 32, 32] hE hM zeroL36 rfl rfl ?_; clear hE a; intro a b6 w47 hE hM'
              clear hM; have hM := hM'; clear hM'
              have hsl664_2 : (List.replicate 16 (0 : UInt8)).length = 16 := List.length_replicate
              have hsl664_3 : (List.replicate 32 (0 : UInt8)).length = 32 := List.length_replicate
              have hsl664_4 : (List.replicate 32 (0 : UInt8)).length = 32 := List.length_replicate
              replace hM : Mem _ _ w47 [_, _, _, _, _] := hM.pick [0, 1, 2, 4, 5] rfl
              refine s_storeSegs 0 5 (vss := [[.bool (decide (((val ((bs.drop 411).take 1) : Nat) : Int) = 1))], [.int .i64 ((val ((bs.drop 412).take 4) : Nat) : Int)], bv (List.replicate 16 (0 : UInt8)), bv (List.replicate 32 (0 : UInt8)), bv (List.replicate 32 (0 : UInt8))]) hE rfl rfl hM rfl sz36 (by simp only [List.take_succ_cons, List.take_zero, List.drop_zero, List.drop_succ_cons]; simp only [List.map_cons, List.map_nil, bv_length, List.length_cons, List.length_nil, List.length_replicate, hsl664_2, hsl664_3, hsl664_4]) (by decide) rfl (one_fl ⟨one1 rfl, one1 rfl, bv_one _, bv_one _, bv_one _, trivial⟩) rfl (by intro X h; cases h) ?_; intro w48 hM'; clear hM; have hM := hM'; clear hM'
              try simp only [List.take_zero, List.take_succ_cons, List.drop_zero, List.drop_succ_cons, List.take_nil, List.drop_nil, List.nil_append, List.append_nil, List.cons_append] at hM
              refine q_nil ?_
              replace hE : Env a 56 [(0, _), (2, _), (3, _), (4, _), (5, _), (6, _), (17, _), (18, _), (32, _), (33, _)] := hE.sel [0, 2, 3, 4, 5, 6, 17, 18, 32, 33] rfl
              refine hK43 _ _ ?_
              refine wp_seq_k (fun K44 hK44 => ?_)
              refine wp_treeM hM (by kernel_rfl) (fun _ => True) (fun _ => True) (.re [(0, true), (1, true), (2, true), (3, false), (4, false)] (.fl 3 (.fl 0 (.weak (.or 3 (.cut (.re [(4, false)] (.fl 0 (.fl 0 (.weak (.or 4 (.cut (.re [] (.weak (.leaf 0)))) (.stop))))))) (.stop)))))) [(0, true), (1, true), (2, true), (3, false), (4, false)] [(0, [(1, 0), (4, 1)]), (1, [(4, 1)]), (3, [(4, 3)]), (4, [])] (by kernel_rfl) ?_
              intro w49 hM' hww49; clear hM; have hM := hM'; clear hM'
              refine o_re ?_
              refine o_fl rfl ?_
              refine s_fieldAddr hE rfl fo36_2 rfl ?_; clear hE a; intro a hE
              refine s_sliceArr (l := 0) (h := 16) (mx' := 16) hE rfl arr34 rfl rfl rfl (by simp) (by omega) (by omega) (by omega) rfl ?_; clear hE a; intro a hE
              replace hE := hE.cast 43 rfl (show _ = Value.slice (some ⟨b6, 2, none⟩) 16 16 from rfl)
              refine s_move hE rfl rfl ?_; clear hE a; intro a hE
              refine q_nil (q_nx ?_)
              refine o_fl rfl ?_
              refine q_nil (q_nx ?_)
              refine o_weak (fun b => b ∈ [tb]) (fun _ _ => trivial) ?_
              refine o_or rfl ?_ ?_
              · replace hM : Mem _ _ w49 [_, _, _, _, _] := hM.pick [1, 0, 2, 3, 4] rfl
                have hlt45_5 : ((bs.drop 416).take 16).length = 16 := (by have hl_q : (bs.drop 416).length = bs.length - 416 := (by simp; try omega); simp; try omega)
                refine s_call hE rfl Try.call41 (tapBytes_ok tb bb (bs.drop 416) 16 _ (hM.get 0 rfl) (by have hl_ : (bs.drop 416).length = bs.length - 416 := (by simp; try omega); first | omega | (simp; done) | (simp; omega))) rfl ?_
                rintro e w50 ⟨v45, rfl, hvt45_5, hN⟩
                refine ⟨_, rfl, hN.sta, ?_⟩; clear hE a; intro a hE
                replace hM : Mem _ _ w50 [_, _, _, _, _, _] := hM.call1 hN (fun f hf x hx => (List.mem_cons.1 hf).elim (fun h => by subst h; exact .inl (hvt45_5 x (by first | exact hx | (rw [hlt45_5] at hx; exact hx)))) (fun h => by rw [List.mem_singleton.1 h] at hx; exact .inl hx)); clear hN
                replace hM : Mem _ _ w50 [_, _, _, _, _, _] := hM.pick [1, 0, 2, 3, 4, 5] rfl
                replace hM := hM.tapEq (q := bs.drop 432) (by first | (rw [List.drop_drop]; done) | (rw [List.drop_drop]; congr 1; omega))
                refine q_nil (q_nx ?_)
                refine o_cut (fun _ => True) ?_
                refine o_re ?_
                refine o_fl rfl ?_
                refine q_nil (q_nx ?_)
                refine o_fl rfl ?_
                refine q_nil (q_nx ?_)
                refine o_weak (fun b => b = b6) (fun _ _ => trivial) ?_
                refine o_or rfl ?_ ?_
                · replace hM : Mem _ _ w50 [_, _, _, _, _, _] := hM.pick [2, 0, 1, 3, 4, 5] rfl
                  refine s_copySeg 2 hE rfl rfl hM (hM.get 2 rfl) hlt45_5 (bv_one _) sl55 rfl ((bv_length _).trans List.length_replicate) rfl (by intro X h; cases h; rfl) rfl ?_; clear hE a; intro a w51 hE hM'; clear hM; have hM := hM'; clear hM'
                  simp only [List.set_cons_zero, List.set_cons_succ] at hM
                  refine q_nil (q_nx ?_)
                  refine o_cut (fun _ => True) ?_
                  refine o_re ?_
                  refine o_weak (fun _ => False) (fun _ _ => trivial) ?_
                  refine o_leaf rfl rfl ?_
                  refine q_nil (q_ph (q_nil ?_))
                  replace hE : Env a 56 [(0, _), (2, _), (3, _), (4, _), (5, _), (6, _), (17, _), (18, _), (32, _), (33, _)] := hE.sel [0, 2, 3, 4, 5, 6, 17, 18, 32, 33] rfl
                  refine hK44 _ _ ?_
                  refine wp_seq_k (fun K45 hK45 => ?_)
                  refine wp_plain [true, false, true, false] rfl rfl ?_
                  refine s_move hE rfl rfl ?_; clear hE a; intro a hE
                  replace hM : Mem _ _ w51 [_, _, _, _, _, _] := hM.pick [1, 0, 2, 3, 4, 5] rfl
                  refine s_call hE rfl Try.call43 (hwrapped_c tb bb (bs.drop 432) _ (hM.get 0 rfl) (by have hl_ : (bs.drop 432).length = bs.length - 432 := (by simp; try omega); first | omega | (simp; done) | (simp; omega)) (by have hl_ : (bs.drop 432).length = bs.length - 432 := (by simp; try omega); first | omega | (simp; done) | (simp; omega))) rfl ?_
                  rintro e w52 ⟨rfl, hN⟩
                  refine ⟨_, rfl, trivial, ?_⟩; clear hE a; intro a hE
                  replace hM : Mem _ _ w52 [_, _, _, _, _, _] := hM.call1 hN (fun f hf x hx => by rw [List.mem_singleton.1 hf] at hx; exact .inl hx); clear hN
                  replace hM := hM.tapEq (q := bs.drop 496) (by first | (rw [List.drop_drop]; done) | (rw [List.drop_drop]; congr 1; omega))
                  refine s_fieldAddr hE rfl fo36_3 rfl ?_; clear hE a; intro a hE
                  have hsl725_0 : ((bs.drop 432).take 32).length = 32 := (by have hl_q : (bs.drop 432).length = bs.length - 432 := (by simp; try omega); simp; try omega)
                  have hsl725_1 : (((bs.drop 432).drop 32).take 32).length = 32 := (by have hl_q : (bs.drop 432).length = bs.length - 432 := (by simp; try omega); simp; try omega)
                  replace hM : Mem _ _ w52 [_, _, _, _, _, _] := hM.pick [1, 0, 2, 3, 4, 5] rfl
                  refine s_storeSegs 3 2 (vss := [bv ((bs.drop 432).take 32), bv (((bs.drop 432).drop 32).take 32)]) hE rfl rfl hM rfl sz29 (by simp only [List.take_succ_cons, List.take_zero, List.drop_zero, List.drop_succ_cons]; simp only [List.map_cons, List.map_nil, bv_length, List.length_cons, List.length_nil, List.length_replicate, hsl725_0, hsl725_1]) (by decide) rfl (one_fl ⟨bv_one _, bv_one _, trivial⟩) rfl (by intro X h; cases h) ?_; intro w53 hM'; clear hM; have hM := hM'; clear hM'
                  try simp only [List.take_zero, List.take_succ_cons, List.drop_zero, List.drop_succ_cons, List.take_nil, List.drop_nil, List.nil_append, List.append_nil, List.cons_append] at hM
                  refine q_nil ?_
                  replace hE : Env a 56 [(0, _), (2, _), (3, _), (4, _), (5, _), (6, _), (17, _), (18, _), (32, _), (33, _)] := hE.sel [0, 2, 3, 4, 5, 6, 17, 18, 32, 33] rfl
                  refine hK45 _ _ ?_
                  refine wp_plain [true, true, true, true, false] rfl rfl ?_
                  refine s_move hE rfl rfl ?_; clear hE a; intro a hE
                  refine s_loadN hE rfl (hM.get 0 rfl) row36 rfl (by intro X h; cases h) rfl ?_; clear hE a; intro a hE
                  replace hE := hE.cast 51 rfl (show _ = Value.agg ([[.bool (decide (((val ((bs.drop 411).take 1) : Nat) : Int) = 1))], [.int .i64 ((val ((bs.drop 412).take 4) : Nat) : Int)], bv ((bs.drop 416).take 16), bv ((bs.drop 432).take 32), bv (((bs.drop 432).drop 32).take 32)] : List (List Value)).flatten.toArray from (by first | rfl | simp only [List.flatten_cons, List.flatten_nil, List.append_nil, List.append_assoc]))
                  refine s_fieldAddr hE rfl fo39_2 rfl ?_; clear hE a; intro a hE
                  refine s_indexArr (j := 3) hE rfl rfl arr37 rfl (by decide) rfl ?_; clear hE a; intro a hE
                  have hsl739_2 : ((bs.drop 416).take 16).length = 16 := hlt45_5
                  have hsl739_3 : ((bs.drop 432).take 32).length = 32 := (by have hl_q : (bs.drop 432).length = bs.length - 432 := (by simp; try omega); simp; try omega)
                  have hsl739_4 : (((bs.drop 432).drop 32).take 32).length = 32 := (by have hl_q : (bs.drop 432).length = bs.length - 432 := (by simp; try omega); simp; try omega)
                  replace hM : Mem _ _ w53 [_, _, _, _, _, _] := hM.pick [3, 0, 1, 2, 4, 5] rfl
                  refine s_storeSegs 25 5 (vss := [[.bool (decide (((val ((bs.drop 411).take 1) : Nat) : Int) = 1))], [.int .i64 ((val ((bs.drop 412).take 4) : Nat) : Int)], bv ((bs.drop 416).take 16), bv ((bs.drop 432).take 32), bv (((bs.drop 432).drop 32).take 32)]) hE rfl rfl hM rfl sz36 (by simp only [List.take_succ_cons, List.take_zero, List.drop_zero, List.drop_succ_cons]; simp only [List.map_cons, List.map_nil, bv_length, List.length_cons, List.length_nil, List.length_replicate, hsl739_2, hsl739_3, hsl739_4]) (by decide) rfl (one_fl ⟨one1 rfl, one1 rfl, bv_one _, bv_one _, bv_one _, trivial⟩) rfl (by intro X h; cases h) ?_; intro w54 hM'; clear hM; have hM := hM'; clear hM'
                  try simp only [List.take_zero, List.take_succ_cons, List.drop_zero, List.drop_succ_cons, List.take_nil, List.drop_nil, List.nil_append, List.append_nil, List.cons_append] at hM
                  refine q_nil ?_
                  replace hE : Env a 56 [(0, _), (2, _), (3, _), (4, _), (5, _), (6, _), (17, _), (18, _), (32, _), (33, _)] := hE.sel [0, 2, 3, 4, 5, 6, 17, 18, 32, 33] rfl
                  refine q_block_n ?_
                  refine hK41 _ _ ?_
                  refine wp_plain [true, true] rfl rfl ?_
                  refine s_bin hE rfl rfl (show Bin _ _ _ _ _ (.int .i64 4) from bin_add (by rw [wrap_i64 (by omega) (by omega)]; omega)) rfl ?_; clear hE a; intro a hE
                  refine s_move hE rfl rfl ?_; clear hE a; intro a hE
                  refine q_nil ?_
                  replace hE : Env a 56 [(0, _), (2, _), (3, _), (4, _), (5, _), (6, _), (17, _), (18, _), (32, _), (33, _)] := hE.sel [0, 2, 3, 4, 5, 6, 17, 18, 32, 33] rfl
                  replace hM : Mem _ _ w54 [_, _, _, _, _] := hM.pick [0, 1, 2, 4, 5] rfl
                  refine q_then_n (c_rounds ?_)
                  refine wp_seq_k (fun K46 hK46 => ?_)
                  refine wp_plain [true] rfl rfl ?_
                  refine s_bin hE rfl rfl bin_lss rfl ?_; clear hE a; intro a hE
                  replace hE := hE.cast 33 rfl (show _ = Value.bool false from (congrArg Value.bool (by decide)))
                  refine q_nil ?_
                  refine hK46 _ _ ?_
                  refine wp_seq_k (fun K47 hK47 => ?_)
                  refine wp_cond_false (hE.eval rfl) ?_
                  refine wp_exit ?_
                  refine q_then_e ?_
                  refine q_then_e ?_
                  refine q_block_x ?_
                  refine hK16 _ _ ?_
                  refine wp_seq_k (fun K48 hK48 => ?_)
                  refine wp_plain [true, false] rfl rfl ?_
                  refine s_loadN hE rfl (hM.get 0 rfl) row39 rfl (by intro X h; cases h) rfl ?_; clear hE a; intro a hE
                  replace hE := hE.cast 55 rfl (show _ = Value.agg ([[.int .i64 ((val ((bs.drop 8).take 1) : Nat) : Int)], [.int .i64 ((val ((bs.drop 9).take 1) : Nat) : Int)], [.bool (decide (((val ((bs.drop 10).take 1) : Nat) : Int) = 1))], [.int .u64 ((val ((bs.drop 11).take 8) : Nat) : Int)], bv ((bs.drop 19).take 32), bv (((bs.drop 19).drop 32).take 32), [.bool (decide (((val ((bs.drop 83).take 1) : Nat) : Int) = 1))], [.int .u64 ((val ((bs.drop 84).take 8) : Nat) : Int)], bv ((bs.drop 92).take 32), bv (((bs.drop 92).drop 32).take 32), [.bool (decide (((val ((bs.drop 156).take 1) : Nat) : Int) = 1))], [.int .i64 ((val ((bs.drop 157).take 4) : Nat) : Int)], bv ((bs.drop 161).take 16), bv ((bs.drop 177).take 32), bv (((bs.drop 177).drop 32).take 32), [.bool (decide (((val ((bs.drop 241).take 1) : Nat) : Int) = 1))], [.int .i64 ((val ((bs.drop 242).take 4) : Nat) : Int)], bv ((bs.drop 246).take 16), bv ((bs.drop 262).take 32), bv (((bs.drop 262).drop 32).take 32), [.bool (decide (((val ((bs.drop 326).take 1) : Nat) : Int) = 1))], [.int .i64 ((val ((bs.drop 327).take 4) : Nat) : Int)], bv ((bs.drop 331).take 16), bv ((bs.drop 347).take 32), bv (((bs.drop 347).drop 32).take 32), [.bool (decide (((val ((bs.drop 411).take 1) : Nat) : Int) = 1))], [.int .i64 ((val ((bs.drop 412).take 4) : Nat) : Int)], bv ((bs.drop 416).take 16), bv ((bs.drop 432).take 32), bv (((bs.drop 432).drop 32).take 32)] : List (List Value)).flatten.toArray from (by first | rfl | simp only [List.flatten_cons, List.flatten_nil, List.append_nil, List.append_assoc]))
                  have hsl773_4 : ((bs.drop 19).take 32).length = 32 := (by have hl_q : (bs.drop 19).length = bs.length - 19 := (by simp; try omega); simp; try omega)
                  have hsl773_5 : (((bs.drop 19).drop 32).take 32).length = 32 := (by have hl_q : (bs.drop 19).length = bs.length - 19 := (by simp; try omega); simp; try omega)
                  have hsl773_8 : ((bs.drop 92).take 32).length = 32 := (by have hl_q : (bs.drop 92).length = bs.length - 92 := (by simp; try omega); simp; try omega)
                  have hsl773_9 : (((bs.drop 92).drop 32).take 32).length = 32 := (by have hl_q : (bs.drop 92).length = bs.length - 92 := (by simp; try omega); simp; try omega)
                  have hsl773_12 : ((bs.drop 161).take 16).length = 16 := hlt45_2
                  have hsl773_13 : ((bs.drop 177).take 32).length = 32 := (by have hl_q : (bs.drop 177).length = bs.length - 177 := (by simp; try omega); simp; try omega)
                  have hsl773_14 : (((bs.drop 177).drop 32).take 32).length = 32 := (by have hl_q : (bs.drop 177).length = bs.length - 177 := (by simp; try omega); simp; try omega)
                  have hsl773_17 : ((bs.drop 246).take 16).length = 16 := hlt45_3
                  have hsl773_18 : ((bs.drop 262).take 32).length = 32 := (by have hl_q : (bs.drop 262).length = bs.length - 262 := (by simp; try omega); simp; try omega)
                  have hsl773_19 : (((bs.drop 262).drop 32).take 32).length = 32 := (by have hl_q : (bs.drop 262).length = bs.length - 262 := (by simp; try omega); simp; try omega)
                  have hsl773_22 : ((bs.drop 331).take 16).length = 16 := hlt45_4
                  have hsl773_23 : ((bs.drop 347).take 32).length = 32 := (by have hl_q : (bs.drop 347).length = bs.length - 347 := (by simp; try omega); simp; try omega)
                  have hsl773_24 : (((bs.drop 347).drop 32).take 32).length = 32 := (by have hl_q : (bs.drop 347).length = bs.length - 347 := (by simp; try omega); simp; try omega)
                  have hsl773_27 : ((bs.drop 416).take 16).length = 16 := hlt45_5
                  have hsl773_28 : ((bs.drop 432).take 32).length = 32 := (by have hl_q : (bs.drop 432).length = bs.length - 432 := (by simp; try omega); simp; try omega)
                  have hsl773_29 : (((bs.drop 432).drop 32).take 32).length = 32 := (by have hl_q : (bs.drop 432).length = bs.length - 432 := (by simp; try omega); simp; try omega)
                  replace hM : Mem _ _ w54 [_, _, _, _, _] := hM.pick [4, 0, 1, 2, 3] rfl
                  refine s_storeSegs 0 30 (vss := [[.int .i64 ((val ((bs.drop 8).take 1) : Nat) : Int)], [.int .i64 ((val ((bs.drop 9).take 1) : Nat) : Int)], [.bool (decide (((val ((bs.drop 10).take 1) : Nat) : Int) = 1))], [.int .u64 ((val ((bs.drop 11).take 8) : Nat) : Int)], bv ((bs.drop 19).take 32), bv (((bs.drop 19).drop 32).take 32), [.bool (decide (((val ((bs.drop 83).take 1) : Nat) : Int) = 1))], [.int .u64 ((val ((bs.drop 84).take 8) : Nat) : Int)], bv ((bs.drop 92).take 32), bv (((bs.drop 92).drop 32).take 32), [.bool (decide (((val ((bs.drop 156).take 1) : Nat) : Int) = 1))], [.int .i64 ((val ((bs.drop 157).take 4) : Nat) : Int)], bv ((bs.drop 161).take 16), bv ((bs.drop 177).take 32), bv (((bs.drop 177).drop 32).take 32), [.bool (decide (((val ((bs.drop 241).take 1) : Nat) : Int) = 1))], [.int .i64 ((val ((bs.drop 242).take 4) : Nat) : Int)], bv ((bs.drop 246).take 16), bv ((bs.drop 262).take 32), bv (((bs.drop 262).drop 32).take 32), [.bool (decide (((val ((bs.drop 326).take 1) : Nat) : Int) = 1))], [.int .i64 ((val ((bs.drop 327).take 4) : Nat) : Int)], bv ((bs.drop 331).take 16), bv ((bs.drop 347).take 32), bv (((bs.drop 347).drop 32).take 32), [.bool (decide (((val ((bs.drop 411).take 1) : Nat) : Int) = 1))], [.int .i64 ((val ((bs.drop 412).take 4) : Nat) : Int)], bv ((bs.drop 416).take 16), bv ((bs.drop 432).take 32), bv (((bs.drop 432).drop 32).take 32)]) hE rfl rfl hM rfl sz39 (by simp only [List.take_succ_cons, List.take_zero, List.drop_zero, List.drop_succ_cons]; simp only [List.map_cons, List.map_nil, bv_length, List.length_cons, List.length_nil, List.length_replicate, hsl773_4, hsl773_5, hsl773_8, hsl773_9, hsl773_12, hsl773_13, hsl773_14, hsl773_17, hsl773_18, hsl773_19, hsl773_22, hsl773_23, hsl773_24, hsl773_27, hsl773_28, hsl773_29]) (by decide) rfl (one_fl ⟨one1 rfl, one1 rfl, one1 rfl, one1 rfl, bv_one _, bv_one _, one1 rfl, one1 rfl, bv_one _, bv_one _, one1 rfl, one1 rfl, bv_one _, bv_one _, bv_one _, one1 rfl, one1 rfl, bv_one _, bv_one _, bv_one _, one1 rfl, one1 rfl, bv_one _, bv_one _, bv_one _, one1 rfl, one1 rfl, bv_one _, bv_one _, bv_one _, trivial⟩) rfl (by intro X h; cases h) ?_; intro w55 hM'; clear hM; have hM := hM'; clear hM'
                  try simp only [List.take_zero, List.take_succ_cons, List.drop_zero, List.drop_succ_cons, List.take_nil, List.drop_nil, List.nil_append, List.append_nil, List.cons_append] at hM
                  refine q_nil ?_
                  replace hE : Env a 56 [(0, _), (2, _), (3, _), (4, _), (5, _), (6, _), (17, _), (18, _), (32, _), (33, _)] := hE.sel [0, 2, 3, 4, 5, 6, 17, 18, 32, 33] rfl
                  refine hK48 _ _ ?_
                  refine wp_ret ?_
                  refine f_ret1 hE rfl (res_cellN rfl (hM.get 0 rfl) row39 rfl) ?_
                  replace hM : Mem _ _ w55 [_, _, _, _, _] := hM.pick [3, 0, 1, 2, 4] rfl
                  exact ⟨(by first | rfl | (simp [readH, readV, readS, seg, dec_one]; done) | (simp [readH, readV, readS, seg, dec_one]; and_intros <;> exact decide_eq_decide.2 Iff.rfl)), hM.pick [0] rfl⟩
                trivial
              trivial
            trivial
          trivial
        trivial
      trivial
    trivial
  trivial
theorem hput_a (h : Hd) (w : World) (hk : OkHd h) : Calls Try.prog 8 #[.agg ([[.int .i64 h.m], [.int .i64 h.r], [.bool h.v0.1], [.int .u64 ((h.v0.2.1 : Nat) : Int)], bv h.v0.2.2.1, bv h.v0.2.2.2, [.bool h.v1.1], [.int .u64 ((h.v1.2.1 : Nat) : Int)], bv h.v1.2.2.1, bv h.v1.2.2.2, [.bool h.s0.1], [.int .i64 h.s0.2.1], bv h.s0.2.2.1, bv h.s0.2.2.2.1, bv h.s0.2.2.2.2, [.bool h.s1.1], [.int .i64 h.s1.2.1], bv h.s1.2.2.1, bv h.s1.2.2.2.1, bv h.s1.2.2.2.2, [.bool h.s2.1], [.int .i64 h.s2.2.1], bv h.s2.2.2.1, bv h.s2.2.2.2.1, bv h.s2.2.2.2.2, [.bool h.s3.1], [.int .i64 h.s3.2.1], bv h.s3.2.2.1, bv h.s3.2.2.2.1, bv h.s3.2.2.2.2] : List (List Value)).flatten.toArray] w fun e w' => ∃ v', e = .returned (.tuple #[v', .int .i64 ((checkH h : Nat) : Int)]) ∧ Mem w [] w' [own v' 64 (putH h).length ((putH h).flatMap bv)] := by
  by_cases hc : checkH h = 0
  · rw [show putH h = cutH (layH h) from if_pos hc, hc]
    exact hput_ok h w hk hc
  · rw [show putH h = [] from if_neg hc, check_no hc]
    refine Calls.mono (hput_no h w hk (check_no hc)) ?_
    rintro e w' ⟨rfl, hM⟩
    exact ⟨_, rfl, hM.addNil 64⟩
end Go.Proofs.Ytamjaacddbecaaa
