/- Walks of functions of the given program that the claim reaches. -/
import Derived.Test.YtniekapfoaiieaaDoorLf
set_option linter.unusedSimpArgs false
set_option linter.unusedVariables false
namespace Go.Proofs.YtniekapfoaiieaaDoor
open Go Go.Kx
theorem eqa23 : ∀ {a b : List UInt8}, a.length = 32 → b.length = 32 → Bin Tryd.prog .eql 23 (.agg (bv a).toArray) (.agg (bv b).toArray) (.bool (decide (a = b))) ∧ Bin Tryd.prog .neq 23 (.agg (bv a).toArray) (.agg (bv b).toArray) (.bool (!decide (a = b))) := fun ha hb => bins_arr8 Tryd.underlying23 (by kernel_rfl) Tryd.underlying5 (by kernel_rfl) (by kernel_rfl) ha hb
theorem boxput_c (v : Value) (bs : List UInt8) (c : Nat) (x : List UInt8) (y : List UInt8) (w : World) (hr_bs : (rd v 1 bs.length c (bv bs)).holds w) (hl_x : x.length = 32) (hl_y : y.length = 32) (hb : bs.length + 64 ≤ 140737488355328) : Calls Tryd.prog 23 #[v, .agg ([bv x, bv y] : List (List Value)).flatten.toArray] w fun e w' => ∃ v', e = .returned (v') ∧ Mem w [] w' [own v' 1 ((bs ++ x) ++ y).length (bv ((bs ++ x) ++ y))] := by
  have hM : Mem w [] w [rd v 1 bs.length c (bv bs)] := Mem.startR w (fun g hg => by
    simp only [List.mem_cons, List.not_mem_nil, or_false] at hg
    rcases hg with rfl
    · exact ⟨hr_bs, rfl⟩)
  refine f_enter 13 Tryd.func23 rfl rfl rfl ?_
  intro a hE
  replace hE : Env a 13 [(0, _), (1, _)] := hE
  refine wp_seq_k (fun K1 hK1 => ?_)
  refine wp_plain [false, true] rfl rfl ?_
  refine s_box (ss := [bv x, bv y]) [32, 32] hE hM rfl rfl (by simp [*]) rfl ?_; clear hE a; intro a b3 w1 hE hM'
  clear hM; have hM := hM'; clear hM'
  refine s_assign hE rfl rfl ?_; clear hE a; intro a hE
  refine q_nil ?_
  replace hE : Env a 13 [(0, _), (3, _), (4, _)] := hE.sel [0, 3, 4] rfl
  refine hK1 _ _ ?_
  refine wp_seq_k (fun K2 hK2 => ?_)
  refine wp_treeM hM (by kernel_rfl) (fun _ => True) (fun _ => True) (.re [(0, true), (2, true), (3, true), (5, true), (6, true), (1, false), (4, false), (7, false), (8, true)] (.fl 5 (.fl 0 (.or 1 (.re [(4, false), (7, false), (8, true)] (.fl 0 (.fl 0 (.weak (.or 4 (.cut (.re [(7, false), (8, true)] (.fl 0 (.fl 0 (.weak (.or 7 (.cut (.re [(8, true)] (.weak (.leaf 1)))) (.stop))))))) (.stop)))))) (.stop))))) [(0, true), (2, true), (3, true), (5, true), (6, true), (1, false), (4, false), (7, false), (8, true)] [(1, [(4, 1), (7, 4), (8, 1)]), (2, [(3, 2), (4, 3), (7, 4), (8, 2)]), (3, [(4, 3), (7, 4), (8, 3)]), (4, [(7, 4), (8, 4)]), (5, [(6, 5), (7, 6), (8, 5)]), (6, [(7, 6), (8, 6)]), (7, [(8, 7)])] (by kernel_rfl) ?_
  intro w2 hM' hww2; clear hM; have hM := hM'; clear hM'
  refine o_re ?_
  refine o_fl rfl ?_
  refine s_move hE rfl rfl ?_; clear hE a; intro a hE
  refine s_fieldAddr hE rfl fo29_0 rfl ?_; clear hE a; intro a hE
  refine s_sliceArr (l := 0) (h := 32) (mx' := 32) hE rfl arr23 rfl rfl rfl (by simp) (by omega) (by omega) (by omega) rfl ?_; clear hE a; intro a hE
  replace hE := hE.cast 8 rfl (show _ = Value.slice (some ⟨b3, 0, none⟩) 32 32 from rfl)
  refine s_fieldAddr hE rfl fo29_1 rfl ?_; clear hE a; intro a hE
  refine s_sliceArr (l := 0) (h := 32) (mx' := 32) hE rfl arr27 rfl rfl rfl (by simp) (by omega) (by omega) (by omega) rfl ?_; clear hE a; intro a hE
  replace hE := hE.cast 11 rfl (show _ = Value.slice (some ⟨b3, 32, none⟩) 32 32 from rfl)
  refine q_nil (q_nx ?_)
  refine o_fl rfl ?_
  refine q_nil (q_nx ?_)
  refine o_or rfl ?_ ?_
  · refine s_call hE rfl Tryd.call51 (bclone_c bs _ _ _ (hM.get 1 rfl) (by first | omega | (simp; omega))) rfl ?_
    rintro e w3 ⟨v6, rfl, hN⟩
    refine ⟨_, rfl, hN.sta0 _, ?_⟩; clear hE a; intro a hE
    replace hM : Mem _ _ w3 [_, _, _] := hM.call0 hN ⟨rfl, trivial⟩; clear hN
    refine q_nil (q_nx ?_)
    refine o_re ?_
    refine o_fl rfl ?_
    refine q_nil (q_nx ?_)
    refine o_fl rfl ?_
    refine q_nil (q_nx ?_)
    refine o_weak (fun b => b ∈ valBlocks v6) (fun _ _ => trivial) ?_
    refine o_or rfl ?_ ?_
    · refine s_append hE rfl rfl hM sl42 (Src.rd Tryd.underlying42 (rd_seg8 (N := 32) (hM.get 1 rfl) rfl hl_x) (bv_one _)) (len47 (by have hl_y : x.length = 32 := hl_x; first | omega | (simp; done) | (simp; omega))) (by have hl_y : x.length = 32 := hl_x; first | omega | (simp; done) | (simp; omega)) (by intro X h; cases h; exact fun _ hb => hb) rfl ?_; clear hE a; intro a v9 w4 hE hM'; clear hM; have hM := hM'; clear hM'
      replace hM := Mem.ownApp (p := bs) (q := x) hM (by first | rfl | (simp; done))
      refine q_nil (q_nx ?_)
      refine o_cut (fun _ => True) ?_
      refine o_re ?_
      refine o_fl rfl ?_
      refine q_nil (q_nx ?_)
      refine o_fl rfl ?_
      refine q_nil (q_nx ?_)
      refine o_weak (fun b => b ∈ valBlocks v9) (fun _ _ => trivial) ?_
      refine o_or rfl ?_ ?_
      · refine s_append hE rfl rfl hM sl42 (Src.rd Tryd.underlying42 (rd_seg8 (N := 32) (hM.get 1 rfl) rfl hl_y) (bv_one _)) (len47 (by have hl_x : (bs ++ x).length = bs.length + 32 := (by have hl_q : x.length = 32 := hl_x; rw [List.length_append]; omega); have hl_y : y.length = 32 := hl_y; first | omega | (simp; done) | (simp; omega))) (by have hl_x : (bs ++ x).length = bs.length + 32 := (by have hl_q : x.length = 32 := hl_x; rw [List.length_append]; omega); have hl_y : y.length = 32 := hl_y; first | omega | (simp; done) | (simp; omega)) (by intro X h; cases h; exact fun _ hb => hb) rfl ?_; clear hE a; intro a v12 w5 hE hM'; clear hM; have hM := hM'; clear hM'
        replace hM := Mem.ownApp (p := bs ++ x) (q := y) hM (by first | rfl | (simp; done))
        refine q_nil (q_nx ?_)
        refine o_cut (fun _ => True) ?_
        refine o_re ?_
        refine o_weak (fun _ => False) (fun _ _ => trivial) ?_
        refine o_leaf rfl rfl ?_
        refine s_assign hE rfl rfl ?_; clear hE a; intro a hE
        refine q_nil (q_ph (q_nil ?_))
        replace hE : Env a 13 [(4, _)] := hE.sel [4] rfl
        refine hK2 _ _ ?_
        refine wp_ret ?_
        refine f_ret1 hE rfl rfl ?_
        exact ⟨_, (by first | rfl | (simp; done)), hM.pick [0] rfl⟩
      trivial
    trivial
  trivial
theorem boxget_yes (v : Value) (bs : List UInt8) (c : Nat) (w : World) (hr_bs : (rd v 1 bs.length c (bv bs)).holds w) (hl : 64 ≤ bs.length) (hb : bs.length ≤ 140737488355328) : Calls Tryd.prog 24 #[v] w fun e w' => ∃ v', e = .returned (.tuple #[.agg ([bv (bs.take 32), bv ((bs.drop 32).take 32)] : List (List Value)).flatten.toArray, v', .int .i64 0]) ∧ Mem w [] w' [own v' 1 (bs.drop 64).length (bv (bs.drop 64))] := by
  have hM : Mem w [] w [rd v 1 bs.length c (bv bs)] := Mem.startR w (fun g hg => by
    simp only [List.mem_cons, List.not_mem_nil, or_false] at hg
    rcases hg with rfl
    · exact ⟨hr_bs, rfl⟩)
  refine f_enter 23 Tryd.func24 rfl rfl rfl ?_
  intro a hE
  replace hE : Env a 23 [(0, _)] := hE
  refine wp_seq_k (fun K1 hK1 => ?_)
  refine wp_plain [false, true, true] rfl rfl ?_
  refine s_alloc [32, 32] hE hM zero29 rfl rfl ?_; clear hE a; intro a b2 w1 hE hM'
  clear hM; have hM := hM'; clear hM'
  refine s_assign hE rfl rfl ?_; clear hE a; intro a hE
  refine s_assign hE rfl rfl ?_; clear hE a; intro a hE
  refine q_nil ?_
  refine hK1 _ _ ?_
  refine wp_seq_k (fun K2 hK2 => ?_)
  refine wp_seq_k (fun K3 hK3 => ?_)
  refine wp_plain [true, true, true] rfl rfl ?_
  refine s_move hE rfl rfl ?_; clear hE a; intro a hE
  refine s_len hE rfl Tryd.underlying42 (rd_slice (hM.get 1 rfl)) rfl ?_; clear hE a; intro a hE
  refine s_bin hE rfl rfl bin_lss rfl ?_; clear hE a; intro a hE
  refine q_nil ?_
  replace hE : Env a 23 [(0, _), (2, _), (3, _), (4, _), (8, _)] := hE.sel [0, 2, 3, 4, 8] rfl
  refine hK3 _ _ ?_
  replace hE := hE.cast 8 rfl (show _ = Value.bool false from (congrArg Value.bool (decide_eq_false (by omega))))
  refine wp_cond_false (hE.eval rfl) ?_
  refine wp_skip ?_
  refine hK2 _ _ ?_
  refine wp_seq_k (fun K4 hK4 => ?_)
  refine wp_plain [false] rfl rfl ?_
  refine s_alloc [32, 32] hE hM zero29 rfl rfl ?_; clear hE a; intro a b5 w2 hE hM'
  clear hM; have hM := hM'; clear hM'
  refine q_nil ?_
  refine hK4 _ _ ?_
  refine wp_seq_k (fun K5 hK5 => ?_)
  refine wp_plain [true, true, true, false] rfl rfl ?_
  refine s_fieldAddr hE rfl fo29_0 rfl ?_; clear hE a; intro a hE
  refine s_sliceArr (l := 0) (h := 32) (mx' := 32) hE rfl arr23 rfl rfl rfl (by simp) (by omega) (by omega) (by omega) rfl ?_; clear hE a; intro a hE
  replace hE := hE.cast 11 rfl (show _ = Value.slice (some ⟨b5, 0, none⟩) 32 32 from rfl)
  refine s_move hE rfl rfl ?_; clear hE a; intro a hE
  refine s_copySegN 0 hE rfl rfl hM (hM.get 2 rfl) (by first | omega | (simp; omega)) (bv_one _) sl42 rfl ((bv_length _).trans (by first | (simp; done) | (simp [*]; done) | (simp; omega))) rfl (by intro X h; cases h) rfl ?_; clear hE a; intro a w4 hE hM'; clear hM; have hM := hM'; clear hM'
  simp only [List.set_cons_zero, List.set_cons_succ, bv_take] at hM
  refine q_nil ?_
  replace hE : Env a 23 [(0, _), (2, _), (3, _), (4, _), (5, _), (8, _)] := hE.sel [0, 2, 3, 4, 5, 8] rfl
  refine hK5 _ _ ?_
  refine wp_seq_k (fun K6 hK6 => ?_)
  refine wp_treeM hM (by kernel_rfl) (fun _ => True) (fun _ => True) (.re [(0, true), (1, true), (2, true), (3, true), (4, false)] (.fl 4 (.fl 0 (.weak (.or 4 (.cut (.re [] (.weak (.leaf 0)))) (.stop)))))) [(0, true), (1, true), (2, true), (3, true), (4, false)] [(0, [(1, 0), (4, 1)]), (1, [(4, 1)]), (3, [(4, 3)]), (4, [])] (by kernel_rfl) ?_
  intro w5 hM' hww5; clear hM; have hM := hM'; clear hM'
  refine o_re ?_
  refine o_fl rfl ?_
  refine s_fieldAddr hE rfl fo29_1 rfl ?_; clear hE a; intro a hE
  refine s_sliceArr (l := 0) (h := 32) (mx' := 32) hE rfl arr27 rfl rfl rfl (by simp) (by omega) (by omega) (by omega) rfl ?_; clear hE a; intro a hE
  replace hE := hE.cast 15 rfl (show _ = Value.slice (some ⟨b5, 32, none⟩) 32 32 from rfl)
  refine s_move hE rfl rfl ?_; clear hE a; intro a hE
  have hcap17 := rd_len (hM.get 2 rfl)
  refine s_slice (l := 32) (h := bs.length) (mx' := c) hE rfl (hM.get 2 rfl) slt42 ⟨_, rfl⟩ rfl rfl (by simp) (by first | omega | assumption | (simp; done) | (simp; omega) | decide) (by first | omega | assumption | (simp; done) | (simp; omega) | decide) (by first | omega | assumption | (simp; done) | (simp; omega) | decide) (by first | omega | assumption | (simp; done) | (simp; omega) | decide) rfl ?_; clear hE a; intro a v17 hE hr17 hvb17
  replace hr17 : (rd v17 1 (bs.drop 32).length (c - 32) (bv (bs.drop 32))).holds _ := rd_drop rfl (by first | omega | assumption | (simp; done) | (simp; omega) | decide) hr17
  replace hM := hM.addPart 2 rfl hr17 hvb17; clear hr17
  refine q_nil (q_nx ?_)
  refine o_fl rfl ?_
  refine q_nil (q_nx ?_)
  refine o_weak (fun b => b = b5) (fun _ _ => trivial) ?_
  refine o_or rfl ?_ ?_
  · replace hM : Mem _ _ w5 [_, _, _, _] := hM.pick [1, 0, 2, 3] rfl
    refine s_copySegN 1 hE rfl rfl hM (hM.get 1 rfl) (by have hl_ : (bs.drop 32).length = bs.length - 32 := (by first | (simp only [List.length_take, List.length_drop]; omega) | (simp; try omega)); first | omega | (simp; omega)) (bv_one _) sl42 rfl ((bv_length _).trans (by first | (simp; done) | (simp [*]; done) | (simp; omega))) rfl (by intro X h; cases h; rfl) rfl ?_; clear hE a; intro a w7 hE hM'; clear hM; have hM := hM'; clear hM'
    simp only [List.set_cons_zero, List.set_cons_succ, bv_take] at hM
    refine q_nil (q_nx ?_)
    refine o_cut (fun _ => True) ?_
    refine o_re ?_
    refine o_weak (fun _ => False) (fun _ _ => trivial) ?_
    refine o_leaf rfl rfl ?_
    refine q_nil (q_ph (q_nil ?_))
    replace hE : Env a 23 [(0, _), (2, _), (3, _), (4, _), (5, _), (8, _)] := hE.sel [0, 2, 3, 4, 5, 8] rfl
    refine hK6 _ _ ?_
    refine wp_seq_k (fun K7 hK7 => ?_)
    refine wp_treeM hM (by kernel_rfl) (fun _ => True) (fun _ => True) (.re [(1, true), (2, true), (0, true), (3, false), (4, false), (5, true), (6, true)] (.fl 2 (.weak (.fl 1 (.or 3 (.cut (.re [(4, false), (5, true), (6, true)] (.fl 0 (.fl 0 (.weak (.or 4 (.cut (.re [(5, true), (6, true)] (.weak (.leaf 2)))) (.stop))))))) (.stop)))))) [(1, true), (2, true), (0, true), (3, false), (4, false), (5, true), (6, true)] [(0, [(4, 0), (5, 0), (6, 0)]), (2, [(3, 2), (4, 3), (5, 2), (6, 2)]), (3, [(4, 3), (5, 3), (6, 3)]), (4, [(5, 4), (6, 4)])] (by kernel_rfl) ?_
    intro w8 hM' hww8; clear hM; have hM := hM'; clear hM'
    refine o_re ?_
    refine o_fl rfl ?_
    refine s_move hE rfl rfl ?_; clear hE a; intro a hE
    have hcap21 := rd_len (hM.get 3 rfl)
    refine s_slice (l := 64) (h := bs.length) (mx' := c) hE rfl (hM.get 3 rfl) slt42 ⟨_, rfl⟩ rfl rfl (by simp) (by first | omega | assumption | (simp; done) | (simp; omega) | decide) (by first | omega | assumption | (simp; done) | (simp; omega) | decide) (by first | omega | assumption | (simp; done) | (simp; omega) | decide) (by first | omega | assumption | (simp; done) | (simp; omega) | decide) rfl ?_; clear hE a; intro a v21 hE hr21 hvb21
    replace hr21 : (rd v21 1 (bs.drop 64).length (c - 64) (bv (bs.drop 64))).holds _ := rd_drop rfl (by first | omega | assumption | (simp; done) | (simp; omega) | decide) hr21
    replace hM := hM.addPart 3 rfl hr21 hvb21; clear hr21
    refine q_nil (q_nx ?_)
    refine o_weak (fun _ => False) (fun _ _ => trivial) ?_
    refine o_fl rfl ?_
    refine s_loadN hE rfl (hM.get 1 rfl) row29 rfl (by intro X h; cases h; simp) rfl ?_; clear hE a; intro a hE
    replace hE := hE.cast 19 rfl (show _ = Value.agg ([bv (bs.take 32), bv ((bs.drop 32).take 32)] : List (List Value)).flatten.toArray from (by first | (simp only [List.flatten_cons, List.flatten_nil, List.append_nil, List.append_assoc]; done) | rfl | simp))
    refine q_nil (q_nx ?_)
    refine o_or rfl ?_ ?_
    · refine s_call hE rfl Tryd.call51 (bclone_c (bs.drop 64) _ _ _ (hM.get 0 rfl) (by have hl_ : (bs.drop 64).length = bs.length - 64 := (by first | (simp only [List.length_take, List.length_drop]; omega) | (simp; try omega)); first | omega | (simp; omega))) rfl ?_
      rintro e w9 ⟨v22, rfl, hN⟩
      refine ⟨_, rfl, hN.sta0 _, ?_⟩; clear hE a; intro a hE
      replace hM : Mem _ _ w9 [_, _, _, _, _, _] := hM.call0 hN ⟨rfl, trivial⟩; clear hN
      refine q_nil (q_nx ?_)
      refine o_cut (fun _ => True) ?_
      refine o_re ?_
      refine o_fl rfl ?_
      refine q_nil (q_nx ?_)
      refine o_fl rfl ?_
      refine q_nil (q_nx ?_)
      refine o_weak (fun b => b = b2) (fun _ _ => trivial) ?_
      refine o_or rfl ?_ ?_
      · replace hM : Mem _ _ w9 [_, _, _, _, _, _] := hM.pick [4, 0, 1, 2, 3, 5] rfl
        refine s_storeSegs 0 2 (vss := [bv (bs.take 32), bv ((bs.drop 32).take 32)]) hE rfl rfl hM rfl sz29 (by have hl_s0 : (bs.take 32).length = 32 := (by simp; omega); have hl_s1 : ((bs.drop 32).take 32).length = 32 := (by have hl_q : (bs.drop 32).length = bs.length - 32 := (by first | (simp only [List.length_take, List.length_drop]; omega) | (simp; try omega)); simp; omega);  simp only [List.map_cons, List.map_nil, bv_length, List.length_cons, List.length_nil, List.take_succ_cons, List.take_zero, List.drop_zero, List.drop_succ_cons, hl_s0, hl_s1]) (by decide) rfl (one_fl ⟨bv_one _, bv_one _, trivial⟩) rfl (by intro X h; cases h; rfl) ?_; intro w10 hM'; clear hM; have hM := hM'; clear hM'
        simp only [List.take_zero, List.take_succ_cons, List.drop_zero, List.drop_succ_cons, List.take_nil, List.drop_nil, List.nil_append, List.append_nil, List.cons_append] at hM
        refine q_nil (q_nx ?_)
        refine o_cut (fun _ => True) ?_
        refine o_re ?_
        refine o_weak (fun _ => False) (fun _ _ => trivial) ?_
        refine o_leaf rfl rfl ?_
        refine s_assign hE rfl rfl ?_; clear hE a; intro a hE
        refine s_assign hE rfl rfl ?_; clear hE a; intro a hE
        refine q_nil (q_ph (q_nil ?_))
        replace hE : Env a 23 [(0, _), (2, _), (3, _), (4, _), (5, _), (8, _)] := hE.sel [0, 2, 3, 4, 5, 8] rfl
        refine hK7 _ _ ?_
        refine wp_ret ?_
        refine f_ret3 hE rfl (res_cellN rfl (hM.get 0 rfl) row29 rfl) rfl rfl ?_
        replace hM : Mem _ _ w10 [_, _, _, _, _, _] := hM.pick [1, 0, 2, 3, 4, 5] rfl
        exact ⟨_, (by first | rfl | (simp; done)), hM.pick [0] rfl⟩
      trivial
    trivial
  trivial
theorem boxget_no (v : Value) (bs : List UInt8) (c : Nat) (w : World) (hr_bs : (rd v 1 bs.length c (bv bs)).holds w) (hl : bs.length < 64) : Calls Tryd.prog 24 #[v] w fun e w' => e = .returned (.tuple #[.agg ([bv (List.replicate 32 (0 : UInt8)), bv (List.replicate 32 (0 : UInt8))] : List (List Value)).flatten.toArray, .slice none 0 0, .int .i64 4]) ∧ Mem w [] w' [] := by
  have hM : Mem w [] w [rd v 1 bs.length c (bv bs)] := Mem.startR w (fun g hg => by
    simp only [List.mem_cons, List.not_mem_nil, or_false] at hg
    rcases hg with rfl
    · exact ⟨hr_bs, rfl⟩)
  refine f_enter 23 Tryd.func24 rfl rfl rfl ?_
  intro a hE
  replace hE : Env a 23 [(0, _)] := hE
  refine wp_seq_k (fun K1 hK1 => ?_)
  refine wp_plain [false, true, true] rfl rfl ?_
  refine s_alloc [32, 32] hE hM zero29 rfl rfl ?_; clear hE a; intro a b2 w1 hE hM'
  clear hM; have hM := hM'; clear hM'
  refine s_assign hE rfl rfl ?_; clear hE a; intro a hE
  refine s_assign hE rfl rfl ?_; clear hE a; intro a hE
  refine q_nil ?_
  refine hK1 _ _ ?_
  refine wp_seq_k (fun K2 hK2 => ?_)
  refine wp_seq_k (fun K3 hK3 => ?_)
  refine wp_plain [true, true, true] rfl rfl ?_
  refine s_move hE rfl rfl ?_; clear hE a; intro a hE
  refine s_len hE rfl Tryd.underlying42 (rd_slice (hM.get 1 rfl)) rfl ?_; clear hE a; intro a hE
  refine s_bin hE rfl rfl bin_lss rfl ?_; clear hE a; intro a hE
  refine q_nil ?_
  replace hE : Env a 23 [(0, _), (2, _), (3, _), (4, _), (8, _)] := hE.sel [0, 2, 3, 4, 8] rfl
  refine hK3 _ _ ?_
  replace hE := hE.cast 8 rfl (show _ = Value.bool true from (congrArg Value.bool (decide_eq_true (by omega))))
  refine wp_cond_true (hE.eval rfl) ?_
  refine wp_seq_k (fun K4 hK4 => ?_)
  refine wp_plain [true, false, true, true] rfl rfl ?_
  refine s_buildS [] hE rfl zero29 rfl fpl29 (by simp [PartsOk, Value.cells, *]) rfl ?_; clear hE a; intro a hE
  replace hE := hE.cast 9 rfl (show _ = Value.agg ([bv (List.replicate 32 (0 : UInt8)), bv (List.replicate 32 (0 : UInt8))] : List (List Value)).flatten.toArray from (by first | rfl | simp [setAll]))
  refine s_storeSegs 0 2 (vss := [bv (List.replicate 32 (0 : UInt8)), bv (List.replicate 32 (0 : UInt8))]) hE rfl rfl hM rfl sz29 (by have hl_s0 : (List.replicate 32 (0 : UInt8)).length = 32 := (by first | (simp; done) | (simp [*]; done) | (simp; omega)); have hl_s1 : (List.replicate 32 (0 : UInt8)).length = 32 := (by first | (simp; done) | (simp [*]; done) | (simp; omega));  simp only [List.map_cons, List.map_nil, bv_length, List.length_cons, List.length_nil, List.take_succ_cons, List.take_zero, List.drop_zero, List.drop_succ_cons, hl_s0, hl_s1]) (by decide) rfl (one_fl ⟨bv_one _, bv_one _, trivial⟩) rfl (by intro X h; cases h) ?_; intro w2 hM'; clear hM; have hM := hM'; clear hM'
  simp only [List.take_zero, List.take_succ_cons, List.drop_zero, List.drop_succ_cons, List.take_nil, List.drop_nil, List.nil_append, List.append_nil, List.cons_append] at hM
  refine s_assign hE rfl rfl ?_; clear hE a; intro a hE
  refine s_assign hE rfl rfl ?_; clear hE a; intro a hE
  refine q_nil ?_
  replace hE : Env a 23 [(0, _), (2, _), (3, _), (4, _), (8, _)] := hE.sel [0, 2, 3, 4, 8] rfl
  refine hK4 _ _ ?_
  refine wp_ret ?_
  refine q_then_r ?_
  refine f_ret3 hE rfl (res_cellN rfl (hM.get 0 rfl) row29 rfl) rfl rfl ?_
  exact ⟨(by first | rfl | (simp; done)), hM.pick [] rfl⟩
theorem boxget_a (v : Value) (bs : List UInt8) (c : Nat) (w : World) (hr : (rd v 1 bs.length c (bv bs)).holds w) (hb : bs.length ≤ 140737488355328) : Calls Tryd.prog 24 #[v] w fun e w' => ∃ v', e = .returned (.tuple #[.agg ([bv (getBd bs), bv (getBt bs)] : List (List Value)).flatten.toArray, v', .int .i64 ((getBe bs : Nat) : Int)]) ∧ Mem w [] w' [own v' 1 (bs.drop 64).length (bv (bs.drop 64))] := by
  by_cases hl : 64 ≤ bs.length
  · rw [getBd, getBt, getBe, if_pos hl, if_pos hl, if_pos hl]
    exact boxget_yes v bs c w hr hl hb
  · rw [getBd, getBt, getBe, if_neg hl, if_neg hl, if_neg hl]
    refine (boxget_no v bs c w hr (by omega)).mono ?_
    rintro e w' ⟨rfl, hM⟩
    refine ⟨_, rfl, ?_⟩
    rw [List.drop_of_length_le (by omega)]
    exact hM.addNil 1
set_option maxRecDepth 20000 in
theorem works10_c  (w : World) (hG : (glb 1).holds w) (hT : tabP.holds w) : Calls Tryd.prog 17 #[] w fun e w' => e = .returned (.bool true) ∧ Mem w [] w' [] := by
  have hM : Mem w [] w [glb 1, tabP] := Mem.startR w (fun g hg => by
    simp only [List.mem_cons, List.not_mem_nil, or_false] at hg
    rcases hg with rfl | rfl
    · exact ⟨hG, rfl⟩
    · exact ⟨hT, rfl⟩)
  refine f_enter 26 Tryd.func17 rfl rfl rfl ?_
  intro a hE
  replace hE : Env a 26 [] := hE
  refine wp_seq_k (fun K1 hK1 => ?_)
  refine wp_plain [true] rfl rfl ?_
  refine s_assign hE rfl rfl ?_; clear hE a; intro a hE
  refine q_nil ?_
  refine hK1 _ _ ?_
  refine wp_seq_k (fun K2 hK2 => ?_)
  refine wp_plain [true, true, false, false, false] rfl rfl ?_
  refine s_build (r := .agg (bv [1, 0, 0, 0, 0, 0, 0, 0, 0, 0, 0, 0, 0, 0, 0, 0, 0, 0, 0, 0, 0, 0, 0, 0, 0, 0, 0, 0, 0, 0, 0, 0]).toArray) _ hE rfl (fun w => by kernel_rfl) rfl ?_; clear hE a; intro a hE
  refine s_build (r := .agg (bv [2, 0, 0, 0, 0, 0, 0, 0, 0, 0, 0, 0, 0, 0, 0, 0, 0, 0, 0, 0, 0, 0, 0, 0, 0, 0, 0, 0, 0, 0, 0, 0]).toArray) _ hE rfl (fun w => by kernel_rfl) rfl ?_; clear hE a; intro a hE
  refine s_call hE rfl Tryd.call14 (wrap_c [1, 0, 0, 0, 0, 0, 0, 0, 0, 0, 0, 0, 0, 0, 0, 0, 0, 0, 0, 0, 0, 0, 0, 0, 0, 0, 0, 0, 0, 0, 0, 0] [115, 108, 111, 116] 7 [2, 0, 0, 0, 0, 0, 0, 0, 0, 0, 0, 0, 0, 0, 0, 0, 0, 0, 0, 0, 0, 0, 0, 0, 0, 0, 0, 0, 0, 0, 0, 0] _ (hM.get 0 rfl) (hM.get 1 rfl) (by have hl_ : [1, 0, 0, 0, 0, 0, 0, 0, 0, 0, 0, 0, 0, 0, 0, 0, 0, 0, 0, 0, 0, 0, 0, 0, 0, 0, 0, 0, 0, 0, 0, 0].length = 32 := (by first | (simp; done) | (simp [*]; done) | (simp; omega)); first | assumption | (simp; done)) (by have hl_ : [2, 0, 0, 0, 0, 0, 0, 0, 0, 0, 0, 0, 0, 0, 0, 0, 0, 0, 0, 0, 0, 0, 0, 0, 0, 0, 0, 0, 0, 0, 0, 0].length = 32 := (by first | (simp; done) | (simp [*]; done) | (simp; omega)); first | assumption | (simp; done)) (by have hl_0 : [1, 0, 0, 0, 0, 0, 0, 0, 0, 0, 0, 0, 0, 0, 0, 0, 0, 0, 0, 0, 0, 0, 0, 0, 0, 0, 0, 0, 0, 0, 0, 0].length = 32 := (by first | (simp; done) | (simp [*]; done) | (simp; omega)); have hl_1 : [115, 108, 111, 116].length = 4 := (by first | (simp; done) | (simp [*]; done) | (simp; omega)); have hl_3 : [2, 0, 0, 0, 0, 0, 0, 0, 0, 0, 0, 0, 0, 0, 0, 0, 0, 0, 0, 0, 0, 0, 0, 0, 0, 0, 0, 0, 0, 0, 0, 0].length = 32 := (by first | (simp; done) | (simp [*]; done) | (simp; omega)); first | omega | assumption | (simp; done) | (simp; omega) | decide) (by have hl_0 : [1, 0, 0, 0, 0, 0, 0, 0, 0, 0, 0, 0, 0, 0, 0, 0, 0, 0, 0, 0, 0, 0, 0, 0, 0, 0, 0, 0, 0, 0, 0, 0].length = 32 := (by first | (simp; done) | (simp [*]; done) | (simp; omega)); have hl_1 : [115, 108, 111, 116].length = 4 := (by first | (simp; done) | (simp [*]; done) | (simp; omega)); have hl_3 : [2, 0, 0, 0, 0, 0, 0, 0, 0, 0, 0, 0, 0, 0, 0, 0, 0, 0, 0, 0, 0, 0, 0, 0, 0, 0, 0, 0, 0, 0, 0, 0].length = 32 := (by first | (simp; done) | (simp [*]; done) | (simp; omega)); first | omega | assumption | (simp; done) | (simp; omega) | decide)) rfl ?_
  rintro e w1 ⟨rfl, hN⟩
  refine ⟨_, rfl, trivial, ?_⟩; clear hE a; intro a hE
  replace hM : Mem _ _ w1 [_, _] := hM.call0 hN trivial; clear hN
  refine s_alloc [32, 32] hE hM zero29 rfl rfl ?_; clear hE a; intro a b1 w2 hE hM'
  clear hM; have hM := hM'; clear hM'
  refine s_storeSegs 0 2 (vss := [bv (wrapD [1, 0, 0, 0, 0, 0, 0, 0, 0, 0, 0, 0, 0, 0, 0, 0, 0, 0, 0, 0, 0, 0, 0, 0, 0, 0, 0, 0, 0, 0, 0, 0] [115, 108, 111, 116] 7 [2, 0, 0, 0, 0, 0, 0, 0, 0, 0, 0, 0, 0, 0, 0, 0, 0, 0, 0, 0, 0, 0, 0, 0, 0, 0, 0, 0, 0, 0, 0, 0]), bv (tagB [1, 0, 0, 0, 0, 0, 0, 0, 0, 0, 0, 0, 0, 0, 0, 0, 0, 0, 0, 0, 0, 0, 0, 0, 0, 0, 0, 0, 0, 0, 0, 0] [115, 108, 111, 116] 7 (wrapD [1, 0, 0, 0, 0, 0, 0, 0, 0, 0, 0, 0, 0, 0, 0, 0, 0, 0, 0, 0, 0, 0, 0, 0, 0, 0, 0, 0, 0, 0, 0, 0] [115, 108, 111, 116] 7 [2, 0, 0, 0, 0, 0, 0, 0, 0, 0, 0, 0, 0, 0, 0, 0, 0, 0, 0, 0, 0, 0, 0, 0, 0, 0, 0, 0, 0, 0, 0, 0]))]) hE rfl rfl hM rfl sz29 (by have hl_s0 : (wrapD [1, 0, 0, 0, 0, 0, 0, 0, 0, 0, 0, 0, 0, 0, 0, 0, 0, 0, 0, 0, 0, 0, 0, 0, 0, 0, 0, 0, 0, 0, 0, 0] [115, 108, 111, 116] 7 [2, 0, 0, 0, 0, 0, 0, 0, 0, 0, 0, 0, 0, 0, 0, 0, 0, 0, 0, 0, 0, 0, 0, 0, 0, 0, 0, 0, 0, 0, 0, 0]).length = 32 := (wrapD_len (k := [1, 0, 0, 0, 0, 0, 0, 0, 0, 0, 0, 0, 0, 0, 0, 0, 0, 0, 0, 0, 0, 0, 0, 0, 0, 0, 0, 0, 0, 0, 0, 0]) (l := [115, 108, 111, 116]) (n := 7) (x := [2, 0, 0, 0, 0, 0, 0, 0, 0, 0, 0, 0, 0, 0, 0, 0, 0, 0, 0, 0, 0, 0, 0, 0, 0, 0, 0, 0, 0, 0, 0, 0]) (by have hl_ax : [2, 0, 0, 0, 0, 0, 0, 0, 0, 0, 0, 0, 0, 0, 0, 0, 0, 0, 0, 0, 0, 0, 0, 0, 0, 0, 0, 0, 0, 0, 0, 0].length = 32 := (by first | (simp; done) | (simp [*]; done) | (simp; omega)); first | assumption | (simp; done))); have hl_s1 : (tagB [1, 0, 0, 0, 0, 0, 0, 0, 0, 0, 0, 0, 0, 0, 0, 0, 0, 0, 0, 0, 0, 0, 0, 0, 0, 0, 0, 0, 0, 0, 0, 0] [115, 108, 111, 116] 7 (wrapD [1, 0, 0, 0, 0, 0, 0, 0, 0, 0, 0, 0, 0, 0, 0, 0, 0, 0, 0, 0, 0, 0, 0, 0, 0, 0, 0, 0, 0, 0, 0, 0] [115, 108, 111, 116] 7 [2, 0, 0, 0, 0, 0, 0, 0, 0, 0, 0, 0, 0, 0, 0, 0, 0, 0, 0, 0, 0, 0, 0, 0, 0, 0, 0, 0, 0, 0, 0, 0])).length = 32 := (tagB_len [1, 0, 0, 0, 0, 0, 0, 0, 0, 0, 0, 0, 0, 0, 0, 0, 0, 0, 0, 0, 0, 0, 0, 0, 0, 0, 0, 0, 0, 0, 0, 0] [115, 108, 111, 116] 7 (wrapD [1, 0, 0, 0, 0, 0, 0, 0, 0, 0, 0, 0, 0, 0, 0, 0, 0, 0, 0, 0, 0, 0, 0, 0, 0, 0, 0, 0, 0, 0, 0, 0] [115, 108, 111, 116] 7 [2, 0, 0, 0, 0, 0, 0, 0, 0, 0, 0, 0, 0, 0, 0, 0, 0, 0, 0, 0, 0, 0, 0, 0, 0, 0, 0, 0, 0, 0, 0, 0]));  simp only [List.map_cons, List.map_nil, bv_length, List.length_cons, List.length_nil, List.take_succ_cons, List.take_zero, List.drop_zero, List.drop_succ_cons, hl_s0, hl_s1]) (by decide) rfl (one_fl ⟨bv_one _, bv_one _, trivial⟩) rfl (by intro X h; cases h) ?_; intro w3 hM'; clear hM; have hM := hM'; clear hM'
  simp only [List.take_zero, List.take_succ_cons, List.drop_zero, List.drop_succ_cons, List.take_nil, List.drop_nil, List.nil_append, List.append_nil, List.cons_append] at hM
  refine q_nil ?_
  replace hE : Env a 26 [(0, _), (1, _)] := hE.sel [0, 1] rfl
  refine hK2 _ _ ?_
  refine wp_seq_k (fun K3 hK3 => ?_)
  refine wp_plain [true, true, false, true, true, true, false, false, true] rfl rfl ?_
  refine s_build (r := .agg (bv [1, 0, 0, 0, 0, 0, 0, 0, 0, 0, 0, 0, 0, 0, 0, 0, 0, 0, 0, 0, 0, 0, 0, 0, 0, 0, 0, 0, 0, 0, 0, 0]).toArray) _ hE rfl (fun w => by kernel_rfl) rfl ?_; clear hE a; intro a hE
  refine s_loadN hE rfl (hM.get 0 rfl) row29 rfl (by intro X h; cases h) rfl ?_; clear hE a; intro a hE
  replace hE := hE.cast 9 rfl (show _ = Value.agg ([bv (wrapD [1, 0, 0, 0, 0, 0, 0, 0, 0, 0, 0, 0, 0, 0, 0, 0, 0, 0, 0, 0, 0, 0, 0, 0, 0, 0, 0, 0, 0, 0, 0, 0] [115, 108, 111, 116] 7 [2, 0, 0, 0, 0, 0, 0, 0, 0, 0, 0, 0, 0, 0, 0, 0, 0, 0, 0, 0, 0, 0, 0, 0, 0, 0, 0, 0, 0, 0, 0, 0]), bv (tagB [1, 0, 0, 0, 0, 0, 0, 0, 0, 0, 0, 0, 0, 0, 0, 0, 0, 0, 0, 0, 0, 0, 0, 0, 0, 0, 0, 0, 0, 0, 0, 0] [115, 108, 111, 116] 7 (wrapD [1, 0, 0, 0, 0, 0, 0, 0, 0, 0, 0, 0, 0, 0, 0, 0, 0, 0, 0, 0, 0, 0, 0, 0, 0, 0, 0, 0, 0, 0, 0, 0] [115, 108, 111, 116] 7 [2, 0, 0, 0, 0, 0, 0, 0, 0, 0, 0, 0, 0, 0, 0, 0, 0, 0, 0, 0, 0, 0, 0, 0, 0, 0, 0, 0, 0, 0, 0, 0]))] : List (List Value)).flatten.toArray from (by first | (simp only [List.flatten_cons, List.flatten_nil, List.append_nil, List.append_assoc]; done) | rfl | simp))
  obtain ⟨hw1, hw2⟩ := unw_ok (k := [1, 0, 0, 0, 0, 0, 0, 0, 0, 0, 0, 0, 0, 0, 0, 0, 0, 0, 0, 0, 0, 0, 0, 0, 0, 0, 0, 0, 0, 0, 0, 0]) (l := [115, 108, 111, 116]) (n := 7) (x := [2, 0, 0, 0, 0, 0, 0, 0, 0, 0, 0, 0, 0, 0, 0, 0, 0, 0, 0, 0, 0, 0, 0, 0, 0, 0, 0, 0, 0, 0, 0, 0]) (by decide)
  refine s_call hE rfl Tryd.call16 (unwrap_c [1, 0, 0, 0, 0, 0, 0, 0, 0, 0, 0, 0, 0, 0, 0, 0, 0, 0, 0, 0, 0, 0, 0, 0, 0, 0, 0, 0, 0, 0, 0, 0] [115, 108, 111, 116] 7 (wrapD [1, 0, 0, 0, 0, 0, 0, 0, 0, 0, 0, 0, 0, 0, 0, 0, 0, 0, 0, 0, 0, 0, 0, 0, 0, 0, 0, 0, 0, 0, 0, 0] [115, 108, 111, 116] 7 [2, 0, 0, 0, 0, 0, 0, 0, 0, 0, 0, 0, 0, 0, 0, 0, 0, 0, 0, 0, 0, 0, 0, 0, 0, 0, 0, 0, 0, 0, 0, 0]) (tagB [1, 0, 0, 0, 0, 0, 0, 0, 0, 0, 0, 0, 0, 0, 0, 0, 0, 0, 0, 0, 0, 0, 0, 0, 0, 0, 0, 0, 0, 0, 0, 0] [115, 108, 111, 116] 7 (wrapD [1, 0, 0, 0, 0, 0, 0, 0, 0, 0, 0, 0, 0, 0, 0, 0, 0, 0, 0, 0, 0, 0, 0, 0, 0, 0, 0, 0, 0, 0, 0, 0] [115, 108, 111, 116] 7 [2, 0, 0, 0, 0, 0, 0, 0, 0, 0, 0, 0, 0, 0, 0, 0, 0, 0, 0, 0, 0, 0, 0, 0, 0, 0, 0, 0, 0, 0, 0, 0])) _ (hM.get 1 rfl) (hM.get 2 rfl) (by have hl_ : [1, 0, 0, 0, 0, 0, 0, 0, 0, 0, 0, 0, 0, 0, 0, 0, 0, 0, 0, 0, 0, 0, 0, 0, 0, 0, 0, 0, 0, 0, 0, 0].length = 32 := (by first | (simp; done) | (simp [*]; done) | (simp; omega)); first | assumption | (simp; done)) (wrapD_len (k := [1, 0, 0, 0, 0, 0, 0, 0, 0, 0, 0, 0, 0, 0, 0, 0, 0, 0, 0, 0, 0, 0, 0, 0, 0, 0, 0, 0, 0, 0, 0, 0]) (l := [115, 108, 111, 116]) (n := 7) (x := [2, 0, 0, 0, 0, 0, 0, 0, 0, 0, 0, 0, 0, 0, 0, 0, 0, 0, 0, 0, 0, 0, 0, 0, 0, 0, 0, 0, 0, 0, 0, 0]) (by have hl_ax : [2, 0, 0, 0, 0, 0, 0, 0, 0, 0, 0, 0, 0, 0, 0, 0, 0, 0, 0, 0, 0, 0, 0, 0, 0, 0, 0, 0, 0, 0, 0, 0].length = 32 := (by first | (simp; done) | (simp [*]; done) | (simp; omega)); first | assumption | (simp; done))) (tagB_len [1, 0, 0, 0, 0, 0, 0, 0, 0, 0, 0, 0, 0, 0, 0, 0, 0, 0, 0, 0, 0, 0, 0, 0, 0, 0, 0, 0, 0, 0, 0, 0] [115, 108, 111, 116] 7 (wrapD [1, 0, 0, 0, 0, 0, 0, 0, 0, 0, 0, 0, 0, 0, 0, 0, 0, 0, 0, 0, 0, 0, 0, 0, 0, 0, 0, 0, 0, 0, 0, 0] [115, 108, 111, 116] 7 [2, 0, 0, 0, 0, 0, 0, 0, 0, 0, 0, 0, 0, 0, 0, 0, 0, 0, 0, 0, 0, 0, 0, 0, 0, 0, 0, 0, 0, 0, 0, 0])) (by have hl_0 : [1, 0, 0, 0, 0, 0, 0, 0, 0, 0, 0, 0, 0, 0, 0, 0, 0, 0, 0, 0, 0, 0, 0, 0, 0, 0, 0, 0, 0, 0, 0, 0].length = 32 := (by first | (simp; done) | (simp [*]; done) | (simp; omega)); have hl_1 : [115, 108, 111, 116].length = 4 := (by first | (simp; done) | (simp [*]; done) | (simp; omega)); have hl_3d : (wrapD [1, 0, 0, 0, 0, 0, 0, 0, 0, 0, 0, 0, 0, 0, 0, 0, 0, 0, 0, 0, 0, 0, 0, 0, 0, 0, 0, 0, 0, 0, 0, 0] [115, 108, 111, 116] 7 [2, 0, 0, 0, 0, 0, 0, 0, 0, 0, 0, 0, 0, 0, 0, 0, 0, 0, 0, 0, 0, 0, 0, 0, 0, 0, 0, 0, 0, 0, 0, 0]).length = 32 := (wrapD_len (k := [1, 0, 0, 0, 0, 0, 0, 0, 0, 0, 0, 0, 0, 0, 0, 0, 0, 0, 0, 0, 0, 0, 0, 0, 0, 0, 0, 0, 0, 0, 0, 0]) (l := [115, 108, 111, 116]) (n := 7) (x := [2, 0, 0, 0, 0, 0, 0, 0, 0, 0, 0, 0, 0, 0, 0, 0, 0, 0, 0, 0, 0, 0, 0, 0, 0, 0, 0, 0, 0, 0, 0, 0]) (by have hl_ax : [2, 0, 0, 0, 0, 0, 0, 0, 0, 0, 0, 0, 0, 0, 0, 0, 0, 0, 0, 0, 0, 0, 0, 0, 0, 0, 0, 0, 0, 0, 0, 0].length = 32 := (by first | (simp; done) | (simp [*]; done) | (simp; omega)); first | assumption | (simp; done))); have hl_3t : (tagB [1, 0, 0, 0, 0, 0, 0, 0, 0, 0, 0, 0, 0, 0, 0, 0, 0, 0, 0, 0, 0, 0, 0, 0, 0, 0, 0, 0, 0, 0, 0, 0] [115, 108, 111, 116] 7 (wrapD [1, 0, 0, 0, 0, 0, 0, 0, 0, 0, 0, 0, 0, 0, 0, 0, 0, 0, 0, 0, 0, 0, 0, 0, 0, 0, 0, 0, 0, 0, 0, 0] [115, 108, 111, 116] 7 [2, 0, 0, 0, 0, 0, 0, 0, 0, 0, 0, 0, 0, 0, 0, 0, 0, 0, 0, 0, 0, 0, 0, 0, 0, 0, 0, 0, 0, 0, 0, 0])).length = 32 := (tagB_len [1, 0, 0, 0, 0, 0, 0, 0, 0, 0, 0, 0, 0, 0, 0, 0, 0, 0, 0, 0, 0, 0, 0, 0, 0, 0, 0, 0, 0, 0, 0, 0] [115, 108, 111, 116] 7 (wrapD [1, 0, 0, 0, 0, 0, 0, 0, 0, 0, 0, 0, 0, 0, 0, 0, 0, 0, 0, 0, 0, 0, 0, 0, 0, 0, 0, 0, 0, 0, 0, 0] [115, 108, 111, 116] 7 [2, 0, 0, 0, 0, 0, 0, 0, 0, 0, 0, 0, 0, 0, 0, 0, 0, 0, 0, 0, 0, 0, 0, 0, 0, 0, 0, 0, 0, 0, 0, 0])); first | omega | assumption | (simp; done) | (simp; omega) | decide) (by have hl_0 : [1, 0, 0, 0, 0, 0, 0, 0, 0, 0, 0, 0, 0, 0, 0, 0, 0, 0, 0, 0, 0, 0, 0, 0, 0, 0, 0, 0, 0, 0, 0, 0].length = 32 := (by first | (simp; done) | (simp [*]; done) | (simp; omega)); have hl_1 : [115, 108, 111, 116].length = 4 := (by first | (simp; done) | (simp [*]; done) | (simp; omega)); have hl_3d : (wrapD [1, 0, 0, 0, 0, 0, 0, 0, 0, 0, 0, 0, 0, 0, 0, 0, 0, 0, 0, 0, 0, 0, 0, 0, 0, 0, 0, 0, 0, 0, 0, 0] [115, 108, 111, 116] 7 [2, 0, 0, 0, 0, 0, 0, 0, 0, 0, 0, 0, 0, 0, 0, 0, 0, 0, 0, 0, 0, 0, 0, 0, 0, 0, 0, 0, 0, 0, 0, 0]).length = 32 := (wrapD_len (k := [1, 0, 0, 0, 0, 0, 0, 0, 0, 0, 0, 0, 0, 0, 0, 0, 0, 0, 0, 0, 0, 0, 0, 0, 0, 0, 0, 0, 0, 0, 0, 0]) (l := [115, 108, 111, 116]) (n := 7) (x := [2, 0, 0, 0, 0, 0, 0, 0, 0, 0, 0, 0, 0, 0, 0, 0, 0, 0, 0, 0, 0, 0, 0, 0, 0, 0, 0, 0, 0, 0, 0, 0]) (by have hl_ax : [2, 0, 0, 0, 0, 0, 0, 0, 0, 0, 0, 0, 0, 0, 0, 0, 0, 0, 0, 0, 0, 0, 0, 0, 0, 0, 0, 0, 0, 0, 0, 0].length = 32 := (by first | (simp; done) | (simp [*]; done) | (simp; omega)); first | assumption | (simp; done))); have hl_3t : (tagB [1, 0, 0, 0, 0, 0, 0, 0, 0, 0, 0, 0, 0, 0, 0, 0, 0, 0, 0, 0, 0, 0, 0, 0, 0, 0, 0, 0, 0, 0, 0, 0] [115, 108, 111, 116] 7 (wrapD [1, 0, 0, 0, 0, 0, 0, 0, 0, 0, 0, 0, 0, 0, 0, 0, 0, 0, 0, 0, 0, 0, 0, 0, 0, 0, 0, 0, 0, 0, 0, 0] [115, 108, 111, 116] 7 [2, 0, 0, 0, 0, 0, 0, 0, 0, 0, 0, 0, 0, 0, 0, 0, 0, 0, 0, 0, 0, 0, 0, 0, 0, 0, 0, 0, 0, 0, 0, 0])).length = 32 := (tagB_len [1, 0, 0, 0, 0, 0, 0, 0, 0, 0, 0, 0, 0, 0, 0, 0, 0, 0, 0, 0, 0, 0, 0, 0, 0, 0, 0, 0, 0, 0, 0, 0] [115, 108, 111, 116] 7 (wrapD [1, 0, 0, 0, 0, 0, 0, 0, 0, 0, 0, 0, 0, 0, 0, 0, 0, 0, 0, 0, 0, 0, 0, 0, 0, 0, 0, 0, 0, 0, 0, 0] [115, 108, 111, 116] 7 [2, 0, 0, 0, 0, 0, 0, 0, 0, 0, 0, 0, 0, 0, 0, 0, 0, 0, 0, 0, 0, 0, 0, 0, 0, 0, 0, 0, 0, 0, 0, 0])); first | omega | assumption | (simp; done) | (simp; omega) | decide)) rfl ?_
  rintro e w4 ⟨rfl, hN⟩
  refine ⟨_, rfl, trivial, ?_⟩; clear hE a; intro a hE
  replace hM : Mem _ _ w4 [_, _, _] := hM.call0 hN trivial; clear hN
  refine s_move hE rfl rfl ?_; clear hE a; intro a hE
  refine s_extract hE rfl rfl rfl ?_; clear hE a; intro a hE
  refine s_extract hE rfl rfl rfl ?_; clear hE a; intro a hE
  refine s_alloc [32] hE hM zero23 rfl rfl ?_; clear hE a; intro a b2 w5 hE hM'
  clear hM; have hM := hM'; clear hM'
  refine s_storeSeg 0 hE rfl rfl hM rfl sz23 ((bv_length _).trans (unwK_len (k := [1, 0, 0, 0, 0, 0, 0, 0, 0, 0, 0, 0, 0, 0, 0, 0, 0, 0, 0, 0, 0, 0, 0, 0, 0, 0, 0, 0, 0, 0, 0, 0]) (l := [115, 108, 111, 116]) (n := 7) (d := (wrapD [1, 0, 0, 0, 0, 0, 0, 0, 0, 0, 0, 0, 0, 0, 0, 0, 0, 0, 0, 0, 0, 0, 0, 0, 0, 0, 0, 0, 0, 0, 0, 0] [115, 108, 111, 116] 7 [2, 0, 0, 0, 0, 0, 0, 0, 0, 0, 0, 0, 0, 0, 0, 0, 0, 0, 0, 0, 0, 0, 0, 0, 0, 0, 0, 0, 0, 0, 0, 0])) (t := (tagB [1, 0, 0, 0, 0, 0, 0, 0, 0, 0, 0, 0, 0, 0, 0, 0, 0, 0, 0, 0, 0, 0, 0, 0, 0, 0, 0, 0, 0, 0, 0, 0] [115, 108, 111, 116] 7 (wrapD [1, 0, 0, 0, 0, 0, 0, 0, 0, 0, 0, 0, 0, 0, 0, 0, 0, 0, 0, 0, 0, 0, 0, 0, 0, 0, 0, 0, 0, 0, 0, 0] [115, 108, 111, 116] 7 [2, 0, 0, 0, 0, 0, 0, 0, 0, 0, 0, 0, 0, 0, 0, 0, 0, 0, 0, 0, 0, 0, 0, 0, 0, 0, 0, 0, 0, 0, 0, 0]))) (by have hl_std : (wrapD [1, 0, 0, 0, 0, 0, 0, 0, 0, 0, 0, 0, 0, 0, 0, 0, 0, 0, 0, 0, 0, 0, 0, 0, 0, 0, 0, 0, 0, 0, 0, 0] [115, 108, 111, 116] 7 [2, 0, 0, 0, 0, 0, 0, 0, 0, 0, 0, 0, 0, 0, 0, 0, 0, 0, 0, 0, 0, 0, 0, 0, 0, 0, 0, 0, 0, 0, 0, 0]).length = 32 := (wrapD_len (k := [1, 0, 0, 0, 0, 0, 0, 0, 0, 0, 0, 0, 0, 0, 0, 0, 0, 0, 0, 0, 0, 0, 0, 0, 0, 0, 0, 0, 0, 0, 0, 0]) (l := [115, 108, 111, 116]) (n := 7) (x := [2, 0, 0, 0, 0, 0, 0, 0, 0, 0, 0, 0, 0, 0, 0, 0, 0, 0, 0, 0, 0, 0, 0, 0, 0, 0, 0, 0, 0, 0, 0, 0]) (by have hl_ax : [2, 0, 0, 0, 0, 0, 0, 0, 0, 0, 0, 0, 0, 0, 0, 0, 0, 0, 0, 0, 0, 0, 0, 0, 0, 0, 0, 0, 0, 0, 0, 0].length = 32 := (by first | (simp; done) | (simp [*]; done) | (simp; omega)); first | assumption | (simp; done))); first | assumption | (simp; done)))) (bv_one _) rfl ((bv_length _).trans (by first | (simp; done) | (simp [*]; done) | (simp; omega))) rfl (by intro X h; cases h) ?_; intro w6 hM'; clear hM; have hM := hM'; clear hM'
  simp only [List.set_cons_zero, List.set_cons_succ] at hM
  refine s_assign hE rfl rfl ?_; clear hE a; intro a hE
  refine q_nil ?_
  replace hE : Env a 26 [(0, _), (1, _), (2, _), (3, _)] := hE.sel [0, 1, 2, 3] rfl
  refine hK3 _ _ ?_
  refine wp_seq_k (fun K4 hK4 => ?_)
  refine wp_plain [true, true, true, true, true, true, true, true, true, true, true, true, true, true] rfl rfl ?_
  refine s_move hE rfl rfl ?_; clear hE a; intro a hE
  refine s_bin hE rfl rfl bin_eql rfl ?_; clear hE a; intro a hE
  refine s_move hE rfl rfl ?_; clear hE a; intro a hE
  replace hE := hE.cast 15 rfl (show _ = Value.bool true from (congrArg Value.bool (by rw [hw2]; rfl)))
  refine g_yes hE rfl rfl ?_
  refine s_loadN hE rfl (hM.get 0 rfl) row23 rfl (by intro X h; cases h) rfl ?_; clear hE a; intro a hE
  refine g_yes hE rfl rfl ?_
  refine s_build (r := .agg (bv [2, 0, 0, 0, 0, 0, 0, 0, 0, 0, 0, 0, 0, 0, 0, 0, 0, 0, 0, 0, 0, 0, 0, 0, 0, 0, 0, 0, 0, 0, 0, 0]).toArray) _ hE rfl (fun w => by kernel_rfl) rfl ?_; clear hE a; intro a hE
  refine g_yes hE rfl rfl ?_
  refine s_bin hE rfl rfl (eqa23 (unwK_len (k := [1, 0, 0, 0, 0, 0, 0, 0, 0, 0, 0, 0, 0, 0, 0, 0, 0, 0, 0, 0, 0, 0, 0, 0, 0, 0, 0, 0, 0, 0, 0, 0]) (l := [115, 108, 111, 116]) (n := 7) (d := (wrapD [1, 0, 0, 0, 0, 0, 0, 0, 0, 0, 0, 0, 0, 0, 0, 0, 0, 0, 0, 0, 0, 0, 0, 0, 0, 0, 0, 0, 0, 0, 0, 0] [115, 108, 111, 116] 7 [2, 0, 0, 0, 0, 0, 0, 0, 0, 0, 0, 0, 0, 0, 0, 0, 0, 0, 0, 0, 0, 0, 0, 0, 0, 0, 0, 0, 0, 0, 0, 0])) (t := (tagB [1, 0, 0, 0, 0, 0, 0, 0, 0, 0, 0, 0, 0, 0, 0, 0, 0, 0, 0, 0, 0, 0, 0, 0, 0, 0, 0, 0, 0, 0, 0, 0] [115, 108, 111, 116] 7 (wrapD [1, 0, 0, 0, 0, 0, 0, 0, 0, 0, 0, 0, 0, 0, 0, 0, 0, 0, 0, 0, 0, 0, 0, 0, 0, 0, 0, 0, 0, 0, 0, 0] [115, 108, 111, 116] 7 [2, 0, 0, 0, 0, 0, 0, 0, 0, 0, 0, 0, 0, 0, 0, 0, 0, 0, 0, 0, 0, 0, 0, 0, 0, 0, 0, 0, 0, 0, 0, 0]))) (by have hl_std : (wrapD [1, 0, 0, 0, 0, 0, 0, 0, 0, 0, 0, 0, 0, 0, 0, 0, 0, 0, 0, 0, 0, 0, 0, 0, 0, 0, 0, 0, 0, 0, 0, 0] [115, 108, 111, 116] 7 [2, 0, 0, 0, 0, 0, 0, 0, 0, 0, 0, 0, 0, 0, 0, 0, 0, 0, 0, 0, 0, 0, 0, 0, 0, 0, 0, 0, 0, 0, 0, 0]).length = 32 := (wrapD_len (k := [1, 0, 0, 0, 0, 0, 0, 0, 0, 0, 0, 0, 0, 0, 0, 0, 0, 0, 0, 0, 0, 0, 0, 0, 0, 0, 0, 0, 0, 0, 0, 0]) (l := [115, 108, 111, 116]) (n := 7) (x := [2, 0, 0, 0, 0, 0, 0, 0, 0, 0, 0, 0, 0, 0, 0, 0, 0, 0, 0, 0, 0, 0, 0, 0, 0, 0, 0, 0, 0, 0, 0, 0]) (by have hl_ax : [2, 0, 0, 0, 0, 0, 0, 0, 0, 0, 0, 0, 0, 0, 0, 0, 0, 0, 0, 0, 0, 0, 0, 0, 0, 0, 0, 0, 0, 0, 0, 0].length = 32 := (by first | (simp; done) | (simp [*]; done) | (simp; omega)); first | assumption | (simp; done))); first | assumption | (simp; done))) (by first | (simp; done) | (simp [*]; done) | (simp; omega))).1 rfl ?_; clear hE a; intro a hE
  refine s_pickt hE rfl rfl rfl ?_; clear hE a; intro a hE
  refine s_move hE rfl rfl ?_; clear hE a; intro a hE
  replace hE := hE.cast 20 rfl (show _ = Value.bool true from (congrArg Value.bool (by rw [hw1]; exact decide_eq_true rfl)))
  refine g_yes hE rfl rfl ?_
  refine s_fieldAddr hE rfl fo29_0 rfl ?_; clear hE a; intro a hE
  refine g_yes hE rfl rfl ?_
  refine s_loadN hE rfl (hM.get 1 rfl) row23 rfl (by intro X h; cases h) rfl ?_; clear hE a; intro a hE
  refine g_yes hE rfl rfl ?_
  refine s_loadN hE rfl (hM.get 0 rfl) row23 rfl (by intro X h; cases h) rfl ?_; clear hE a; intro a hE
  refine g_yes hE rfl rfl ?_
  refine s_bin hE rfl rfl (eqa23 (wrapD_len (k := [1, 0, 0, 0, 0, 0, 0, 0, 0, 0, 0, 0, 0, 0, 0, 0, 0, 0, 0, 0, 0, 0, 0, 0, 0, 0, 0, 0, 0, 0, 0, 0]) (l := [115, 108, 111, 116]) (n := 7) (x := [2, 0, 0, 0, 0, 0, 0, 0, 0, 0, 0, 0, 0, 0, 0, 0, 0, 0, 0, 0, 0, 0, 0, 0, 0, 0, 0, 0, 0, 0, 0, 0]) (by have hl_ax : [2, 0, 0, 0, 0, 0, 0, 0, 0, 0, 0, 0, 0, 0, 0, 0, 0, 0, 0, 0, 0, 0, 0, 0, 0, 0, 0, 0, 0, 0, 0, 0].length = 32 := (by first | (simp; done) | (simp [*]; done) | (simp; omega)); first | assumption | (simp; done))) (unwK_len (k := [1, 0, 0, 0, 0, 0, 0, 0, 0, 0, 0, 0, 0, 0, 0, 0, 0, 0, 0, 0, 0, 0, 0, 0, 0, 0, 0, 0, 0, 0, 0, 0]) (l := [115, 108, 111, 116]) (n := 7) (d := (wrapD [1, 0, 0, 0, 0, 0, 0, 0, 0, 0, 0, 0, 0, 0, 0, 0, 0, 0, 0, 0, 0, 0, 0, 0, 0, 0, 0, 0, 0, 0, 0, 0] [115, 108, 111, 116] 7 [2, 0, 0, 0, 0, 0, 0, 0, 0, 0, 0, 0, 0, 0, 0, 0, 0, 0, 0, 0, 0, 0, 0, 0, 0, 0, 0, 0, 0, 0, 0, 0])) (t := (tagB [1, 0, 0, 0, 0, 0, 0, 0, 0, 0, 0, 0, 0, 0, 0, 0, 0, 0, 0, 0, 0, 0, 0, 0, 0, 0, 0, 0, 0, 0, 0, 0] [115, 108, 111, 116] 7 (wrapD [1, 0, 0, 0, 0, 0, 0, 0, 0, 0, 0, 0, 0, 0, 0, 0, 0, 0, 0, 0, 0, 0, 0, 0, 0, 0, 0, 0, 0, 0, 0, 0] [115, 108, 111, 116] 7 [2, 0, 0, 0, 0, 0, 0, 0, 0, 0, 0, 0, 0, 0, 0, 0, 0, 0, 0, 0, 0, 0, 0, 0, 0, 0, 0, 0, 0, 0, 0, 0]))) (by have hl_std : (wrapD [1, 0, 0, 0, 0, 0, 0, 0, 0, 0, 0, 0, 0, 0, 0, 0, 0, 0, 0, 0, 0, 0, 0, 0, 0, 0, 0, 0, 0, 0, 0, 0] [115, 108, 111, 116] 7 [2, 0, 0, 0, 0, 0, 0, 0, 0, 0, 0, 0, 0, 0, 0, 0, 0, 0, 0, 0, 0, 0, 0, 0, 0, 0, 0, 0, 0, 0, 0, 0]).length = 32 := (wrapD_len (k := [1, 0, 0, 0, 0, 0, 0, 0, 0, 0, 0, 0, 0, 0, 0, 0, 0, 0, 0, 0, 0, 0, 0, 0, 0, 0, 0, 0, 0, 0, 0, 0]) (l := [115, 108, 111, 116]) (n := 7) (x := [2, 0, 0, 0, 0, 0, 0, 0, 0, 0, 0, 0, 0, 0, 0, 0, 0, 0, 0, 0, 0, 0, 0, 0, 0, 0, 0, 0, 0, 0, 0, 0]) (by have hl_ax : [2, 0, 0, 0, 0, 0, 0, 0, 0, 0, 0, 0, 0, 0, 0, 0, 0, 0, 0, 0, 0, 0, 0, 0, 0, 0, 0, 0, 0, 0, 0, 0].length = 32 := (by first | (simp; done) | (simp [*]; done) | (simp; omega)); first | assumption | (simp; done))); first | assumption | (simp; done)))).2 rfl ?_; clear hE a; intro a hE
  refine s_pickt hE rfl rfl rfl ?_; clear hE a; intro a hE
  refine s_assign hE rfl rfl ?_; clear hE a; intro a hE
  refine q_nil ?_
  replace hE : Env a 26 [(0, _), (1, _), (2, _)] := hE.sel [0, 1, 2] rfl
  refine hK4 _ _ ?_
  refine wp_ret ?_
  refine f_ret1 hE rfl rfl ?_
  exact ⟨(congrArg (fun b => Ending.returned (Value.bool b)) (by simp only [wrapD, maskB, boxL, decW_7]; decide +kernel)), hM.pick [] rfl⟩
theorem row10_c (x : List UInt8) (w : World) (hl_x : x.length = 32) : Calls Tryd.prog 46 #[.agg (bv x).toArray] w fun e w' => ∃ v', e = .returned (v') ∧ Mem w [] w' [own v' 1 (plT 66 x).length (bv (plT 66 x))] := by
  have hM := Mem.start0 w
  refine f_enter 12 Tryd.func46 rfl rfl rfl ?_
  intro a hE
  replace hE : Env a 12 [(0, _)] := hE
  refine wp_seq_k (fun K1 hK1 => ?_)
  refine wp_plain [false, true] rfl rfl ?_
  refine s_box (ss := [bv x]) [32] hE hM rfl (by simp [Value.cells]) (by simp [*]) rfl ?_; clear hE a; intro a b1 w1 hE hM'
  clear hM; have hM := hM'; clear hM'
  refine s_assign hE rfl rfl ?_; clear hE a; intro a hE
  refine q_nil ?_
  replace hE : Env a 12 [(1, _), (2, _)] := hE.sel [1, 2] rfl
  refine hK1 _ _ ?_
  refine wp_seq_k (fun K2 hK2 => ?_)
  refine wp_plain [true, false, false, true, true, true, true, true] rfl rfl ?_
  refine s_sliceArr (l := 0) (h := 32) (mx' := 32) hE rfl arr23 rfl rfl rfl (by simp) (by omega) (by omega) (by omega) rfl ?_; clear hE a; intro a hE
  replace hE := hE.cast 6 rfl (show _ = Value.slice (some ⟨b1, 0, none⟩) 32 32 from rfl)
  refine s_buildSlice (xs := [.tmp 6]) ([.slice (some ⟨b1, 0, none⟩) 32 32]) hE hM sl117 rfl rfl rfl (by intro v hv; rw [List.mem_singleton.1 hv]; rfl) (by first | (simp []; done) | (simp [Value.cells]; done)) rfl rfl rfl ?_; clear hE a; intro a v7 w2 hE hM'
  clear hM; have hM := hM'; clear hM'
  obtain ⟨cl1, hl1⟩ := own_rd (hM.get 0 rfl)
  refine s_call hE rfl Tryd.call64 ((by have h := brow_c 66 _ [x] _ _ _ _ hl1 (rdv_cons (p := x) (rd_of_arr (hM.get 1 rfl) hl_x) (rdv_nil _)) (by have hl_ : x.length = 32 := hl_x; simp [rowBytes]; omega); rw [plT_ok] at h; exact h)) rfl ?_
  rintro e w3 ⟨v8, rfl, hN⟩
  refine ⟨_, rfl, trivial, ?_⟩; clear hE a; intro a hE
  replace hM : Mem _ _ w3 [_, _, _] := hM.call0 hN ⟨rfl, trivial⟩; clear hN
  refine s_move hE rfl rfl ?_; clear hE a; intro a hE
  refine s_extract hE rfl rfl rfl ?_; clear hE a; intro a hE
  refine s_extract hE rfl rfl rfl ?_; clear hE a; intro a hE
  refine s_assign hE rfl rfl ?_; clear hE a; intro a hE
  refine s_assign hE rfl rfl ?_; clear hE a; intro a hE
  refine q_nil ?_
  replace hE : Env a 12 [(2, _), (3, _)] := hE.sel [2, 3] rfl
  refine hK2 _ _ ?_
  refine wp_seq_k (fun K3 hK3 => ?_)
  refine wp_plain [true, true] rfl rfl ?_
  refine s_move hE rfl rfl ?_; clear hE a; intro a hE
  refine s_assign hE rfl rfl ?_; clear hE a; intro a hE
  refine q_nil ?_
  replace hE : Env a 12 [(2, _)] := hE.sel [2] rfl
  refine hK3 _ _ ?_
  refine wp_ret ?_
  refine f_ret1 hE rfl rfl ?_
  exact ⟨_, (by first | rfl | (simp; done)), hM.pick [0] rfl⟩
theorem tag10_c (k : List UInt8) (x : List UInt8) (w : World) (hG : (glb 1).holds w) (hl_k : k.length = 32) (hl_x : x.length = 32) : Calls Tryd.prog 20 #[.agg (bv k).toArray, .agg (bv x).toArray] w fun e w' => e = .returned (.agg (bv (hmacW k (plT 66 x))).toArray) ∧ Mem w [] w' [] := by
  have hM : Mem w [] w [glb 1] := Mem.startR w (fun g hg => by
    simp only [List.mem_cons, List.not_mem_nil, or_false] at hg
    rcases hg with rfl
    · exact ⟨hG, rfl⟩)
  refine f_enter 9 Tryd.func20 rfl rfl rfl ?_
  intro a hE
  replace hE : Env a 9 [(0, _), (1, _)] := hE
  refine wp_seq_k (fun K1 hK1 => ?_)
  refine wp_plain [false, false, false] rfl rfl ?_
  refine s_box (ss := [bv k]) [32] hE hM rfl (by simp [Value.cells]) (by simp [*]) rfl ?_; clear hE a; intro a b2 w1 hE hM'
  clear hM; have hM := hM'; clear hM'
  refine s_box (ss := [bv x]) [32] hE hM rfl (by simp [Value.cells]) (by simp [*]) rfl ?_; clear hE a; intro a b3 w2 hE hM'
  clear hM; have hM := hM'; clear hM'
  refine s_alloc [32] hE hM zero27 rfl rfl ?_; clear hE a; intro a b4 w3 hE hM'
  clear hM; have hM := hM'; clear hM'
  refine q_nil ?_
  replace hE : Env a 9 [(2, _), (3, _), (4, _)] := hE.sel [2, 3, 4] rfl
  refine hK1 _ _ ?_
  refine wp_seq_k (fun K2 hK2 => ?_)
  refine wp_treeM hM (by kernel_rfl) (fun _ => True) (fun _ => True) (.re [(0, true), (1, true), (2, false), (3, false), (4, false)] (.fl 1 (.weak (.fl 1 (.or 2 (.cut (.re [(3, false), (4, false)] (.fl 0 (.fl 0 (.or 3 (.re [(4, false)] (.fl 0 (.fl 0 (.weak (.or 4 (.cut (.re [] (.weak (.leaf 0)))) (.stop)))))) (.stop)))))) (.stop)))))) [(0, true), (1, true), (2, false), (3, false), (4, false)] [(0, [(3, 0), (4, 0)]), (1, [(2, 1), (3, 2), (4, 1)]), (2, [(3, 2), (4, 2)]), (3, [(4, 3)]), (4, [])] (by kernel_rfl) ?_
  intro w4 hM' hww4; clear hM; have hM := hM'; clear hM'
  refine o_re ?_
  refine o_fl rfl ?_
  refine s_sliceArr (l := 0) (h := 32) (mx' := 32) hE rfl arr23 rfl rfl rfl (by simp) (by omega) (by omega) (by omega) rfl ?_; clear hE a; intro a hE
  replace hE := hE.cast 5 rfl (show _ = Value.slice (some ⟨b2, 0, none⟩) 32 32 from rfl)
  refine q_nil (q_nx ?_)
  refine o_weak (fun _ => False) (fun _ _ => trivial) ?_
  refine o_fl rfl ?_
  refine s_loadN hE rfl (hM.get 1 rfl) row23 rfl (by intro X h; cases h; simp) rfl ?_; clear hE a; intro a hE
  refine q_nil (q_nx ?_)
  refine o_or rfl ?_ ?_
  · refine s_call hE rfl Tryd.call46 (row10_c x _ hl_x) rfl ?_
    rintro e w5 ⟨v7, rfl, hN⟩
    refine ⟨_, rfl, hN.sta0 _, ?_⟩; clear hE a; intro a hE
    replace hM : Mem _ _ w5 [_, _, _, _, _] := hM.call0 hN ⟨rfl, trivial⟩; clear hN
    refine q_nil (q_nx ?_)
    refine o_cut (fun _ => True) ?_
    refine o_re ?_
    refine o_fl rfl ?_
    refine q_nil (q_nx ?_)
    refine o_fl rfl ?_
    refine q_nil (q_nx ?_)
    refine o_or rfl ?_ ?_
    · obtain ⟨cq1, hq1⟩ := own_rd (hM.get 0 rfl)
      refine s_call hE rfl Tryd.call45 (of_c _ _ k (plT 66 x) _ _ _ (hM.get 4 rfl) (rd_of_arr (hM.get 3 rfl) hl_k) hq1 (by have hl_q : k.length = 32 := hl_k; first | omega | assumption | (simp; done) | (simp; omega) | decide) (by have hl_q : (plT 66 x).length = 38 := ((plT_len 66 x).trans (by have hl_ax : x.length = 32 := hl_x; omega)); first | omega | assumption | (simp; done) | (simp; omega) | decide)) rfl ?_
      rintro e w6 ⟨rfl, hN⟩
      refine ⟨_, rfl, hN.sta0 _, ?_⟩; clear hE a; intro a hE
      replace hM : Mem _ _ w6 [_, _, _, _, _] := hM.call0 hN trivial; clear hN
      refine q_nil (q_nx ?_)
      refine o_re ?_
      refine o_fl rfl ?_
      refine q_nil (q_nx ?_)
      refine o_fl rfl ?_
      refine q_nil (q_nx ?_)
      refine o_weak (fun b => b = b4) (fun _ _ => trivial) ?_
      refine o_or rfl ?_ ?_
      · replace hM : Mem _ _ w6 [_, _, _, _, _] := hM.pick [1, 0, 2, 3, 4] rfl
        refine s_storeSeg 0 hE rfl rfl hM rfl sz27 ((bv_length _).trans (hmacW_length ..)) (bv_one _) rfl ((bv_length _).trans (by first | (simp; done) | (simp [*]; done) | (simp; omega))) rfl (by intro X h; cases h; rfl) ?_; intro w7 hM'; clear hM; have hM := hM'; clear hM'
        simp only [List.set_cons_zero, List.set_cons_succ] at hM
        refine q_nil (q_nx ?_)
        refine o_cut (fun _ => True) ?_
        refine o_re ?_
        refine o_weak (fun _ => False) (fun _ _ => trivial) ?_
        refine o_leaf rfl rfl ?_
        refine q_nil (q_ph (q_nil ?_))
        replace hE : Env a 9 [(4, _)] := hE.sel [4] rfl
        refine hK2 _ _ ?_
        refine wp_ret ?_
        refine f_ret1 hE rfl (res_cellN rfl (hM.get 0 rfl) row27 rfl) ?_
        exact ⟨(by first | rfl | (simp; done)), hM.pick [] rfl⟩
      trivial
    trivial
  trivial
end Go.Proofs.YtniekapfoaiieaaDoor
