/- TreeKnown of casematelaw18 returns true. No condition. -/
import Derived.Test.YtacebdngbalkmaaDoorLw
import Derived.Test.YtacebdngbalkmaaDoorTie
import Derived.Test.YtacebdngbalkmaaDoorCards
set_option linter.unusedSimpArgs false
set_option linter.unusedVariables false
namespace Go.Proofs.YtacebdngbalkmaaDoor
open Go Go.Kx
open Go.ChangeShapes Go.WideShapes Go.ChangeAt Go.RowKit
theorem zero23 : Zero Tryd.prog 23 [bv (List.replicate 32 0)] := ⟨.agg ([bv (List.replicate 32 0)] : List (List Value)).flatten.toArray, by kernel_rfl, by kernel_rfl⟩
theorem sz23 : (Tryd.prog.info? 23).map (·.size) = some 32 := by kernel_rfl
theorem eqa52 : ∀ {a b : List UInt8}, a.length = 64 → b.length = 64 → Bin Tryd.prog .eql 52 (.agg (bv a).toArray) (.agg (bv b).toArray) (.bool (decide (a = b))) ∧ Bin Tryd.prog .neq 52 (.agg (bv a).toArray) (.agg (bv b).toArray) (.bool (!decide (a = b))) := fun ha hb => bins_arr8 Tryd.underlying52 (by kernel_rfl) Tryd.underlying5 (by kernel_rfl) (by kernel_rfl) ha hb
theorem tis_nil  (w : World)  : Calls Tryd.prog 30 #[.pointer none] w fun e w' => e = .returned (.bool false) ∧ Mem w [] w' [] := by
  have hM := Mem.start0 w
  refine f_enter 12 Tryd.func30 rfl rfl rfl ?_
  intro a hE
  replace hE : Env a 12 [(0, _)] := hE
  refine wp_seq_k (fun K1 hK1 => ?_)
  refine wp_plain [true] rfl rfl ?_
  refine s_assign hE rfl rfl ?_; clear hE a; intro a hE
  refine q_nil ?_
  refine hK1 _ _ ?_
  refine wp_seq_k (fun K2 hK2 => ?_)
  refine wp_plain [true, true, true, true, true, true, true, true, true, true] rfl rfl ?_
  refine s_move hE rfl rfl ?_; clear hE a; intro a hE
  refine s_bin hE rfl rfl (bins_nil_nil Tryd.underlying29).2 rfl ?_; clear hE a; intro a hE
  refine s_move hE rfl rfl ?_; clear hE a; intro a hE
  refine g_no (b := false) hE rfl rfl rfl ?_; clear hE a; intro a hE
  refine g_no (b := false) hE rfl rfl rfl ?_; clear hE a; intro a hE
  refine g_no (b := false) hE rfl rfl rfl ?_; clear hE a; intro a hE
  refine g_no (b := false) hE rfl rfl rfl ?_; clear hE a; intro a hE
  refine g_no (b := false) hE rfl rfl rfl ?_; clear hE a; intro a hE
  refine s_pickf hE rfl rfl rfl ?_; clear hE a; intro a hE
  refine s_assign hE rfl rfl ?_; clear hE a; intro a hE
  refine q_nil ?_
  replace hE : Env a 12 [(2, _)] := hE.sel [2] rfl
  refine hK2 _ _ ?_
  refine wp_ret ?_
  refine f_ret1 hE rfl rfl ?_
  exact ⟨(by first | rfl | (simp; done)), hM.pick [] rfl⟩
theorem tis_zero (b : Nat) (k : List UInt8) (v : Value) (w : World) (hB : (blk b [bv k, [.int .i64 0], [v]] [32, 1, 1] 73).holds w) (hl_k : k.length = 32) : Calls Tryd.prog 30 #[.pointer (some ⟨b, 0, none⟩)] w fun e w' => e = .returned (.bool false) ∧ Mem w [] w' [] := by
  have hM : Mem w [] w [blkR b [bv k, [.int .i64 0], [v]] [32, 1, 1] 73] := Mem.startR w (fun g hg => by
    simp only [List.mem_cons, List.not_mem_nil, or_false] at hg
    rcases hg with rfl
    · exact ⟨hB, rfl⟩)
  refine f_enter 12 Tryd.func30 rfl rfl rfl ?_
  intro a hE
  replace hE : Env a 12 [(0, _)] := hE
  refine wp_seq_k (fun K1 hK1 => ?_)
  refine wp_plain [true] rfl rfl ?_
  refine s_assign hE rfl rfl ?_; clear hE a; intro a hE
  refine q_nil ?_
  refine hK1 _ _ ?_
  refine wp_seq_k (fun K2 hK2 => ?_)
  refine wp_plain [true, true, true, true, true, true, true, true, true, true] rfl rfl ?_
  refine s_move hE rfl rfl ?_; clear hE a; intro a hE
  refine s_bin hE rfl rfl (bins_ptr_nil Tryd.underlying29).2 rfl ?_; clear hE a; intro a hE
  refine s_move hE rfl rfl ?_; clear hE a; intro a hE
  refine g_yes hE rfl rfl ?_
  refine s_move hE rfl rfl ?_; clear hE a; intro a hE
  refine g_yes hE rfl rfl ?_
  refine s_nilCheck hE rfl rfl ?_; clear hE a; intro a hE
  refine g_yes hE rfl rfl ?_
  refine s_fieldAddr hE rfl fo73_1 rfl ?_; clear hE a; intro a hE
  refine g_yes hE rfl rfl ?_
  refine s_load1 hE rfl (blkR_blk (hM.get 0 rfl)) rfl one3 (by intro X h; cases h) rfl ?_; clear hE a; intro a hE
  refine g_yes hE rfl rfl ?_
  refine s_bin hE rfl rfl bin_gtr rfl ?_; clear hE a; intro a hE
  replace hE := hE.cast 10 rfl (show _ = Value.bool false from (congrArg Value.bool (by decide)))
  refine s_pickt hE rfl rfl rfl ?_; clear hE a; intro a hE
  refine s_assign hE rfl rfl ?_; clear hE a; intro a hE
  refine q_nil ?_
  replace hE : Env a 12 [(2, _)] := hE.sel [2] rfl
  refine hK2 _ _ ?_
  refine wp_ret ?_
  refine f_ret1 hE rfl rfl ?_
  exact ⟨(by first | rfl | (simp; done)), hM.pick [] rfl⟩
theorem tset_nil (z : Int) (tg : List UInt8) (w : World) (hl_tg : tg.length = 32) : Calls Tryd.prog 11 #[.pointer none, .int .i64 z, .agg (bv tg).toArray] w fun e w' => ∃ v'0, e = .returned (.tuple #[v'0, .int .i64 1]) ∧ Mem w [] w' [own v'0 1 (([] : List Nat).length) (([] : List Nat).flatMap intC)] := by
  have hM := Mem.start0 w
  refine f_enterM 82 Tryd.func11 rfl rfl rfl ?_
  intro a hE
  replace hE : Env a 82 [(0, _), (1, _), (2, _)] := hE
  refine wp_seq_k (fun K1 hK1 => ?_)
  refine wp_plain [false, false, true, true] rfl rfl ?_
  refine s_box (ss := [[_]]) [1] hE hM rfl rfl rfl rfl ?_; clear hE a; intro a b3 w1 hE hM'
  clear hM; have hM := hM'; clear hM'
  refine s_box (ss := [bv tg]) [32] hE hM rfl (by simp [Value.cells]) (by simp [*]) rfl ?_; clear hE a; intro a b5 w2 hE hM'
  clear hM; have hM := hM'; clear hM'
  refine s_assign hE rfl rfl ?_; clear hE a; intro a hE
  refine s_assign hE rfl rfl ?_; clear hE a; intro a hE
  refine q_nil ?_
  replace hE : Env a 82 [(1, _), (3, _), (5, _), (6, _), (7, _)] := hE.sel [1, 3, 5, 6, 7] rfl
  refine hK1 _ _ ?_
  refine wp_seq_k (fun K2 hK2 => ?_)
  refine wp_seq_k (fun K3 hK3 => ?_)
  refine wp_plain [true, false, true] rfl rfl ?_
  refine s_load1 hE rfl (hM.get 1 rfl) rfl one29 (by intro X h; cases h) rfl ?_; clear hE a; intro a hE
  refine s_call hE rfl Tryd.call30 (tis_nil _) rfl ?_
  rintro e w3 ⟨rfl, hN⟩
  refine ⟨_, rfl, trivial, ?_⟩; clear hE a; intro a hE
  replace hM : Mem _ _ w3 [_, _] := hM.call0 hN trivial; clear hN
  refine s_not hE rfl rfl ?_; clear hE a; intro a hE
  replace hE := hE.cast 14 rfl (show _ = Value.bool true from rfl)
  refine q_nil ?_
  replace hE : Env a 82 [(1, _), (3, _), (5, _), (6, _), (7, _), (14, _)] := hE.sel [1, 3, 5, 6, 7, 14] rfl
  refine hK3 _ _ ?_
  refine wp_cond_true (hE.eval rfl) ?_
  refine wp_seq_k (fun K4 hK4 => ?_)
  refine wp_plain [true, true] rfl rfl ?_
  refine s_assign hE rfl rfl ?_; clear hE a; intro a hE
  refine s_assign hE rfl rfl ?_; clear hE a; intro a hE
  refine q_nil ?_
  refine hK4 _ _ ?_
  refine wp_ret ?_
  refine q_then_r ?_
  refine post_M (f_ret2 hE rfl rfl rfl ?_)
  replace hM := hM.addNil 1
  replace hM := hM.ownEq (m' := ([] : List Nat).length) (cs' := ([] : List Nat).flatMap intC) rfl rfl
  exact ⟨_, (by first | rfl | (simp; done)), hM.pick [0] rfl⟩
theorem ttop_nil  (w : World)  : Calls Tryd.prog 12 #[.pointer none] w fun e w' => e = .returned (.agg (bv (List.replicate 32 (0 : UInt8))).toArray) ∧ Mem w [] w' [] := by
  have hM := Mem.start0 w
  refine f_enter 13 Tryd.func12 rfl rfl rfl ?_
  intro a hE
  replace hE : Env a 13 [(0, _)] := hE
  refine wp_seq_k (fun K1 hK1 => ?_)
  refine wp_plain [false] rfl rfl ?_
  refine s_alloc [32] hE hM zero34 rfl rfl ?_; clear hE a; intro a b2 w1 hE hM'
  clear hM; have hM := hM'; clear hM'
  refine q_nil ?_
  refine hK1 _ _ ?_
  refine wp_seq_k (fun K2 hK2 => ?_)
  refine wp_seq_k (fun K3 hK3 => ?_)
  refine wp_plain [true, false, true] rfl rfl ?_
  refine s_move hE rfl rfl ?_; clear hE a; intro a hE
  refine s_call hE rfl Tryd.call30 (tis_nil _) rfl ?_
  rintro e w2 ⟨rfl, hN⟩
  refine ⟨_, rfl, trivial, ?_⟩; clear hE a; intro a hE
  replace hM : Mem _ _ w2 [_] := hM.call0 hN trivial; clear hN
  refine s_not hE rfl rfl ?_; clear hE a; intro a hE
  replace hE := hE.cast 5 rfl (show _ = Value.bool true from rfl)
  refine q_nil ?_
  replace hE : Env a 13 [(0, _), (2, _), (5, _)] := hE.sel [0, 2, 5] rfl
  refine hK3 _ _ ?_
  refine wp_cond_true (hE.eval rfl) ?_
  refine wp_seq_k (fun K4 hK4 => ?_)
  refine wp_plain [true, false] rfl rfl ?_
  refine s_build (r := .agg (bv (List.replicate 32 (0 : UInt8))).toArray) _ hE rfl (fun w => by kernel_rfl) rfl ?_; clear hE a; intro a hE
  refine s_storeSeg 0 hE rfl rfl hM rfl sz34 ((bv_length _).trans (by first | (simp; done) | (simp [*]; done) | (simp; omega))) (bv_one _) rfl ((bv_length _).trans (by first | (simp; done) | (simp [*]; done) | (simp; omega))) rfl (by intro X h; cases h) ?_; intro w3 hM'; clear hM; have hM := hM'; clear hM'
  simp only [List.set_cons_zero, List.set_cons_succ] at hM
  refine q_nil ?_
  replace hE : Env a 13 [(0, _), (2, _), (5, _)] := hE.sel [0, 2, 5] rfl
  refine hK4 _ _ ?_
  refine wp_ret ?_
  refine q_then_r ?_
  refine f_ret1 hE rfl (res_cellN rfl (hM.get 0 rfl) row34 rfl) ?_
  exact ⟨(by first | rfl | (simp; done)), hM.pick [] rfl⟩
theorem tproof_zero (b : Nat) (k : List UInt8) (v : Value) (z : Int) (w : World) (hB : (blk b [bv k, [.int .i64 0], [v]] [32, 1, 1] 73).holds w) (hl_k : k.length = 32) : Calls Tryd.prog 14 #[.pointer (some ⟨b, 0, none⟩), .int .i64 z] w fun e w' => ∃ v'0, e = .returned (.tuple #[v'0, .int .i64 1]) ∧ Mem w [] w' [own v'0 64 (([] : List (List UInt8)).length) (([] : List (List UInt8)).flatMap bv)] := by
  have hM : Mem w [] w [blkR b [bv k, [.int .i64 0], [v]] [32, 1, 1] 73] := Mem.startR w (fun g hg => by
    simp only [List.mem_cons, List.not_mem_nil, or_false] at hg
    rcases hg with rfl
    · exact ⟨hB, rfl⟩)
  refine f_enterM 38 Tryd.func14 rfl rfl rfl ?_
  intro a hE
  replace hE : Env a 38 [(0, _), (1, _)] := hE
  refine wp_seq_k (fun K1 hK1 => ?_)
  refine wp_plain [false, true, true] rfl rfl ?_
  refine s_box (ss := [[_]]) [1] hE hM rfl rfl rfl rfl ?_; clear hE a; intro a b2 w1 hE hM'
  clear hM; have hM := hM'; clear hM'
  refine s_assign hE rfl rfl ?_; clear hE a; intro a hE
  refine s_assign hE rfl rfl ?_; clear hE a; intro a hE
  refine q_nil ?_
  replace hE : Env a 38 [(1, _), (2, _), (4, _), (5, _)] := hE.sel [1, 2, 4, 5] rfl
  refine hK1 _ _ ?_
  refine wp_seq_k (fun K2 hK2 => ?_)
  refine wp_seq_k (fun K3 hK3 => ?_)
  refine wp_plain [true, false, true] rfl rfl ?_
  refine s_load1 hE rfl (hM.get 0 rfl) rfl one29 (by intro X h; cases h) rfl ?_; clear hE a; intro a hE
  refine s_call hE rfl Tryd.call30 (tis_zero b k v _ (blkR_blk (hM.get 1 rfl)) hl_k) rfl ?_
  rintro e w2 ⟨rfl, hN⟩
  refine ⟨_, rfl, trivial, ?_⟩; clear hE a; intro a hE
  replace hM : Mem _ _ w2 [_, _] := hM.call0 hN trivial; clear hN
  refine s_not hE rfl rfl ?_; clear hE a; intro a hE
  replace hE := hE.cast 10 rfl (show _ = Value.bool true from rfl)
  refine q_nil ?_
  replace hE : Env a 38 [(1, _), (2, _), (4, _), (5, _), (10, _)] := hE.sel [1, 2, 4, 5, 10] rfl
  refine hK3 _ _ ?_
  refine wp_cond_true (hE.eval rfl) ?_
  refine wp_seq_k (fun K4 hK4 => ?_)
  refine wp_plain [true, true] rfl rfl ?_
  refine s_assign hE rfl rfl ?_; clear hE a; intro a hE
  refine s_assign hE rfl rfl ?_; clear hE a; intro a hE
  refine q_nil ?_
  refine hK4 _ _ ?_
  refine wp_ret ?_
  refine q_then_r ?_
  refine post_M (f_ret2 hE rfl rfl rfl ?_)
  replace hM := hM.addNil 64
  replace hM := hM.ownEq (m' := ([] : List (List UInt8)).length) (cs' := ([] : List (List UInt8)).flatMap bv) rfl rfl
  exact ⟨_, (by first | rfl | (simp; done)), hM.pick [0] rfl⟩
theorem ttag_zero (b : Nat) (k : List UInt8) (v : Value) (z : Int) (w : World) (hB : (blk b [bv k, [.int .i64 0], [v]] [32, 1, 1] 73).holds w) (hl_k : k.length = 32) : Calls Tryd.prog 13 #[.pointer (some ⟨b, 0, none⟩), .int .i64 z] w fun e w' => e = .returned (.tuple #[.agg (bv (List.replicate 32 (0 : UInt8))).toArray, .int .i64 1]) ∧ Mem w [] w' [] := by
  have hM : Mem w [] w [blkR b [bv k, [.int .i64 0], [v]] [32, 1, 1] 73] := Mem.startR w (fun g hg => by
    simp only [List.mem_cons, List.not_mem_nil, or_false] at hg
    rcases hg with rfl
    · exact ⟨hB, rfl⟩)
  refine f_enter 31 Tryd.func13 rfl rfl rfl ?_
  intro a hE
  replace hE : Env a 31 [(0, _), (1, _)] := hE
  refine wp_seq_k (fun K1 hK1 => ?_)
  refine wp_plain [false, true] rfl rfl ?_
  refine s_alloc [32] hE hM zero34 rfl rfl ?_; clear hE a; intro a b4 w1 hE hM'
  clear hM; have hM := hM'; clear hM'
  refine s_assign hE rfl rfl ?_; clear hE a; intro a hE
  refine q_nil ?_
  refine hK1 _ _ ?_
  refine wp_seq_k (fun K2 hK2 => ?_)
  refine wp_block ?_
  refine wp_seq_k (fun K3 hK3 => ?_)
  refine wp_plain [true, false, true, true] rfl rfl ?_
  refine s_move hE rfl rfl ?_; clear hE a; intro a hE
  refine s_call hE rfl Tryd.call30 (tis_zero b k v _ (blkR_blk (hM.get 1 rfl)) hl_k) rfl ?_
  rintro e w2 ⟨rfl, hN⟩
  refine ⟨_, rfl, trivial, ?_⟩; clear hE a; intro a hE
  replace hM : Mem _ _ w2 [_, _] := hM.call0 hN trivial; clear hN
  refine s_not hE rfl rfl ?_; clear hE a; intro a hE
  replace hE := hE.cast 9 rfl (show _ = Value.bool true from rfl)
  refine s_assign hE rfl rfl ?_; clear hE a; intro a hE
  refine q_nil ?_
  replace hE : Env a 31 [(0, _), (1, _), (4, _), (5, _), (6, _)] := hE.sel [0, 1, 4, 5, 6] rfl
  refine hK3 _ _ ?_
  refine wp_cond_true (hE.eval rfl) ?_
  refine wp_seq_k (fun K4 hK4 => ?_)
  refine wp_plain [true, false, true] rfl rfl ?_
  refine s_build (r := .agg (bv (List.replicate 32 (0 : UInt8))).toArray) _ hE rfl (fun w => by kernel_rfl) rfl ?_; clear hE a; intro a hE
  refine s_storeSeg 0 hE rfl rfl hM rfl sz34 ((bv_length _).trans (by first | (simp; done) | (simp [*]; done) | (simp; omega))) (bv_one _) rfl ((bv_length _).trans (by first | (simp; done) | (simp [*]; done) | (simp; omega))) rfl (by intro X h; cases h) ?_; intro w3 hM'; clear hM; have hM := hM'; clear hM'
  simp only [List.set_cons_zero, List.set_cons_succ] at hM
  refine s_assign hE rfl rfl ?_; clear hE a; intro a hE
  refine q_nil ?_
  replace hE : Env a 31 [(0, _), (1, _), (4, _), (5, _), (6, _)] := hE.sel [0, 1, 4, 5, 6] rfl
  refine hK4 _ _ ?_
  refine wp_ret ?_
  refine q_block_r ?_
  refine q_then_r ?_
  refine f_ret2 hE rfl (res_cellN rfl (hM.get 0 rfl) row34 rfl) rfl ?_
  exact ⟨(by first | rfl | (simp; done)), hM.pick [] rfl⟩
set_option maxRecDepth 20000 in
set_option maxHeartbeats 4000000 in
theorem treeKnown_c  (w : World) (hG : (glb 0).holds w) : Calls Tryd.prog 7 #[] w fun e w' => e = .returned (.bool true) ∧ Mem w [] w' [] := by
  have hM : Mem w [] w [glb 0] := Mem.startR w (fun g hg => by
    simp only [List.mem_cons, List.not_mem_nil, or_false] at hg
    rcases hg with rfl
    · exact ⟨hG, rfl⟩)
  refine f_enter 321 Tryd.func7 rfl rfl rfl ?_
  intro a hE
  replace hE : Env a 321 [] := hE
  refine wp_seq_k (fun K1 hK1 => ?_)
  refine wp_plain [true] rfl rfl ?_
  refine s_assign hE rfl rfl ?_; clear hE a; intro a hE
  refine q_nil ?_
  refine hK1 _ _ ?_
  refine wp_seq_k (fun K2 hK2 => ?_)
  refine wp_plain [true, false, false] rfl rfl ?_
  refine s_build (r := .agg (bv [9, 0, 0, 0, 0, 0, 0, 0, 0, 0, 0, 0, 0, 0, 0, 0, 0, 0, 0, 0, 0, 0, 0, 0, 0, 0, 0, 0, 0, 0, 0, 0]).toArray) _ hE rfl (fun w => by kernel_rfl) rfl ?_; clear hE a; intro a hE
  refine s_alloc [32] hE hM zero23 rfl rfl ?_; clear hE a; intro a b1 w1 hE hM'
  clear hM; have hM := hM'; clear hM'
  refine s_storeSeg 0 hE rfl rfl hM rfl sz23 ((bv_length _).trans (by first | (simp; done) | (simp [*]; done) | (simp; omega))) (bv_one _) rfl ((bv_length _).trans (by first | (simp; done) | (simp [*]; done) | (simp; omega))) rfl (by intro X h; cases h) ?_; intro w2 hM'; clear hM; have hM := hM'; clear hM'
  simp only [List.set_cons_zero, List.set_cons_succ] at hM
  refine q_nil ?_
  replace hE : Env a 321 [(0, _), (1, _)] := hE.sel [0, 1] rfl
  refine hK2 _ _ ?_
  refine wp_seq_k (fun K3 hK3 => ?_)
  refine wp_plain [true, true, true, true, false, false, false, false, false, false, false, false] rfl rfl ?_
  refine s_build (r := .agg (bv [1, 0, 0, 0, 0, 0, 0, 0, 0, 0, 0, 0, 0, 0, 0, 0, 0, 0, 0, 0, 0, 0, 0, 0, 0, 0, 0, 0, 0, 0, 0, 0]).toArray) _ hE rfl (fun w => by kernel_rfl) rfl ?_; clear hE a; intro a hE
  refine s_build (r := .agg (bv [2, 0, 0, 0, 0, 0, 0, 0, 0, 0, 0, 0, 0, 0, 0, 0, 0, 0, 0, 0, 0, 0, 0, 0, 0, 0, 0, 0, 0, 0, 0, 0]).toArray) _ hE rfl (fun w => by kernel_rfl) rfl ?_; clear hE a; intro a hE
  refine s_build (r := .agg (bv [3, 0, 0, 0, 0, 0, 0, 0, 0, 0, 0, 0, 0, 0, 0, 0, 0, 0, 0, 0, 0, 0, 0, 0, 0, 0, 0, 0, 0, 0, 0, 0]).toArray) _ hE rfl (fun w => by kernel_rfl) rfl ?_; clear hE a; intro a hE
  refine s_build (r := .agg (bv [4, 0, 0, 0, 0, 0, 0, 0, 0, 0, 0, 0, 0, 0, 0, 0, 0, 0, 0, 0, 0, 0, 0, 0, 0, 0, 0, 0, 0, 0, 0, 0]).toArray) _ hE rfl (fun w => by kernel_rfl) rfl ?_; clear hE a; intro a hE
  refine s_alloc [32] hE hM zero34 rfl rfl ?_; clear hE a; intro a b2 w3 hE hM'
  clear hM; have hM := hM'; clear hM'
  refine s_alloc [32] hE hM zero34 rfl rfl ?_; clear hE a; intro a b3 w4 hE hM'
  clear hM; have hM := hM'; clear hM'
  refine s_alloc [32] hE hM zero34 rfl rfl ?_; clear hE a; intro a b4 w5 hE hM'
  clear hM; have hM := hM'; clear hM'
  refine s_alloc [32] hE hM zero34 rfl rfl ?_; clear hE a; intro a b5 w6 hE hM'
  clear hM; have hM := hM'; clear hM'
  replace hM : Mem _ _ w6 [_, _, _, _, _, _] := hM.pick [3, 0, 1, 2, 4, 5] rfl
  refine s_storeSeg 0 hE rfl rfl hM rfl sz34 ((bv_length _).trans (by first | (simp; done) | (simp [*]; done) | (simp; omega))) (bv_one _) rfl ((bv_length _).trans (by first | (simp; done) | (simp [*]; done) | (simp; omega))) rfl (by intro X h; cases h) ?_; intro w7 hM'; clear hM; have hM := hM'; clear hM'
  simp only [List.set_cons_zero, List.set_cons_succ] at hM
  replace hM : Mem _ _ w7 [_, _, _, _, _, _] := hM.pick [3, 0, 1, 2, 4, 5] rfl
  refine s_storeSeg 0 hE rfl rfl hM rfl sz34 ((bv_length _).trans (by first | (simp; done) | (simp [*]; done) | (simp; omega))) (bv_one _) rfl ((bv_length _).trans (by first | (simp; done) | (simp [*]; done) | (simp; omega))) rfl (by intro X h; cases h) ?_; intro w8 hM'; clear hM; have hM := hM'; clear hM'
  simp only [List.set_cons_zero, List.set_cons_succ] at hM
  replace hM : Mem _ _ w8 [_, _, _, _, _, _] := hM.pick [3, 0, 1, 2, 4, 5] rfl
  refine s_storeSeg 0 hE rfl rfl hM rfl sz34 ((bv_length _).trans (by first | (simp; done) | (simp [*]; done) | (simp; omega))) (bv_one _) rfl ((bv_length _).trans (by first | (simp; done) | (simp [*]; done) | (simp; omega))) rfl (by intro X h; cases h) ?_; intro w9 hM'; clear hM; have hM := hM'; clear hM'
  simp only [List.set_cons_zero, List.set_cons_succ] at hM
  replace hM : Mem _ _ w9 [_, _, _, _, _, _] := hM.pick [3, 0, 1, 2, 4, 5] rfl
  refine s_storeSeg 0 hE rfl rfl hM rfl sz34 ((bv_length _).trans (by first | (simp; done) | (simp [*]; done) | (simp; omega))) (bv_one _) rfl ((bv_length _).trans (by first | (simp; done) | (simp [*]; done) | (simp; omega))) rfl (by intro X h; cases h) ?_; intro w10 hM'; clear hM; have hM := hM'; clear hM'
  simp only [List.set_cons_zero, List.set_cons_succ] at hM
  refine q_nil ?_
  replace hE : Env a 321 [(0, _), (1, _), (2, _), (3, _), (4, _), (5, _)] := hE.sel [0, 1, 2, 3, 4, 5] rfl
  refine hK3 _ _ ?_
  refine wp_seq_k (fun K4 hK4 => ?_)
  refine wp_plain [true, true, true, true, false, false, true, true, true, true, true] rfl rfl ?_
  refine s_loadN hE rfl (hM.get 4 rfl) row23 rfl (by intro X h; cases h) rfl ?_; clear hE a; intro a hE
  refine s_loadN hE rfl (hM.get 3 rfl) row34 rfl (by intro X h; cases h) rfl ?_; clear hE a; intro a hE
  refine s_loadN hE rfl (hM.get 2 rfl) row34 rfl (by intro X h; cases h) rfl ?_; clear hE a; intro a hE
  refine s_loadN hE rfl (hM.get 1 rfl) row34 rfl (by intro X h; cases h) rfl ?_; clear hE a; intro a hE
  have hro56_0 : [1, 0, 0, 0, 0, 0, 0, 0, 0, 0, 0, 0, 0, 0, 0, 0, 0, 0, 0, 0, 0, 0, 0, 0, 0, 0, 0, 0, 0, 0, 0, 0].length = 32 := (by first | (simp; done) | (simp [*]; done) | (simp; omega))
  have hro56_1 : [2, 0, 0, 0, 0, 0, 0, 0, 0, 0, 0, 0, 0, 0, 0, 0, 0, 0, 0, 0, 0, 0, 0, 0, 0, 0, 0, 0, 0, 0, 0, 0].length = 32 := (by first | (simp; done) | (simp [*]; done) | (simp; omega))
  have hro56_2 : [3, 0, 0, 0, 0, 0, 0, 0, 0, 0, 0, 0, 0, 0, 0, 0, 0, 0, 0, 0, 0, 0, 0, 0, 0, 0, 0, 0, 0, 0, 0, 0].length = 32 := (by first | (simp; done) | (simp [*]; done) | (simp; omega))
  have hrl56 : ∀ x, x ∈ ([[1, 0, 0, 0, 0, 0, 0, 0, 0, 0, 0, 0, 0, 0, 0, 0, 0, 0, 0, 0, 0, 0, 0, 0, 0, 0, 0, 0, 0, 0, 0, 0], [2, 0, 0, 0, 0, 0, 0, 0, 0, 0, 0, 0, 0, 0, 0, 0, 0, 0, 0, 0, 0, 0, 0, 0, 0, 0, 0, 0, 0, 0, 0, 0], [3, 0, 0, 0, 0, 0, 0, 0, 0, 0, 0, 0, 0, 0, 0, 0, 0, 0, 0, 0, 0, 0, 0, 0, 0, 0, 0, 0, 0, 0, 0, 0]] : List (List UInt8)) → x.length = 32 := by
    intro x hx; simp only [List.mem_cons, List.not_mem_nil, or_false] at hx; rcases hx with rfl | rfl | rfl
    · exact hro56_0
    · exact hro56_1
    · exact hro56_2
  refine s_buildSlice (xs := [.tmp 53, .tmp 54, .tmp 55]) (([[1, 0, 0, 0, 0, 0, 0, 0, 0, 0, 0, 0, 0, 0, 0, 0, 0, 0, 0, 0, 0, 0, 0, 0, 0, 0, 0, 0, 0, 0, 0, 0], [2, 0, 0, 0, 0, 0, 0, 0, 0, 0, 0, 0, 0, 0, 0, 0, 0, 0, 0, 0, 0, 0, 0, 0, 0, 0, 0, 0, 0, 0, 0, 0], [3, 0, 0, 0, 0, 0, 0, 0, 0, 0, 0, 0, 0, 0, 0, 0, 0, 0, 0, 0, 0, 0, 0, 0, 0, 0, 0, 0, 0, 0, 0, 0]] : List (List UInt8)).flatMap bv) hE hM sl24 rfl rfl rfl (by intro v hv; simp only [List.mem_cons, List.not_mem_nil, or_false] at hv; rcases hv with rfl | rfl | rfl; exact ((bv_length _).trans hro56_0); exact ((bv_length _).trans hro56_1); exact ((bv_length _).trans hro56_2)) (by simp [Value.cells]) rfl rfl rfl ?_; clear hE a; intro a v56 w11 hE hM'
  clear hM; have hM := hM'; clear hM'
  replace hM := hM.ownEq (m' := ([[1, 0, 0, 0, 0, 0, 0, 0, 0, 0, 0, 0, 0, 0, 0, 0, 0, 0, 0, 0, 0, 0, 0, 0, 0, 0, 0, 0, 0, 0, 0, 0], [2, 0, 0, 0, 0, 0, 0, 0, 0, 0, 0, 0, 0, 0, 0, 0, 0, 0, 0, 0, 0, 0, 0, 0, 0, 0, 0, 0, 0, 0, 0, 0], [3, 0, 0, 0, 0, 0, 0, 0, 0, 0, 0, 0, 0, 0, 0, 0, 0, 0, 0, 0, 0, 0, 0, 0, 0, 0, 0, 0, 0, 0, 0, 0]] : List (List UInt8)).length) (cs' := ([[1, 0, 0, 0, 0, 0, 0, 0, 0, 0, 0, 0, 0, 0, 0, 0, 0, 0, 0, 0, 0, 0, 0, 0, 0, 0, 0, 0, 0, 0, 0, 0], [2, 0, 0, 0, 0, 0, 0, 0, 0, 0, 0, 0, 0, 0, 0, 0, 0, 0, 0, 0, 0, 0, 0, 0, 0, 0, 0, 0, 0, 0, 0, 0], [3, 0, 0, 0, 0, 0, 0, 0, 0, 0, 0, 0, 0, 0, 0, 0, 0, 0, 0, 0, 0, 0, 0, 0, 0, 0, 0, 0, 0, 0, 0, 0]] : List (List UInt8)).flatMap bv) rfl rfl
  obtain ⟨cq1, hq1⟩ := own_rd (hM.get 0 rfl)
  refine s_call hE rfl Tryd.call10 (tnew_c [9, 0, 0, 0, 0, 0, 0, 0, 0, 0, 0, 0, 0, 0, 0, 0, 0, 0, 0, 0, 0, 0, 0, 0, 0, 0, 0, 0, 0, 0, 0, 0] 2 _ ([[1, 0, 0, 0, 0, 0, 0, 0, 0, 0, 0, 0, 0, 0, 0, 0, 0, 0, 0, 0, 0, 0, 0, 0, 0, 0, 0, 0, 0, 0, 0, 0], [2, 0, 0, 0, 0, 0, 0, 0, 0, 0, 0, 0, 0, 0, 0, 0, 0, 0, 0, 0, 0, 0, 0, 0, 0, 0, 0, 0, 0, 0, 0, 0], [3, 0, 0, 0, 0, 0, 0, 0, 0, 0, 0, 0, 0, 0, 0, 0, 0, 0, 0, 0, 0, 0, 0, 0, 0, 0, 0, 0, 0, 0, 0, 0]] : List (List UInt8)) _ _ (hM.get 6 rfl) hq1 (by first | (simp; done) | (simp [*]; done) | (simp; omega)) hrl56 (by first | decide | omega) (by first | decide | simp)) rfl ?_
  rintro e w12 ⟨b57, u57, rfl, hN⟩
  refine ⟨_, rfl, trivial, ?_⟩; clear hE a; intro a hE
  replace hM : Mem _ _ w12 [_, _, _, _, _, _, _, _, _] := hM.call0 hN ⟨rfl, rfl, trivial⟩; clear hN
  refine s_move hE rfl rfl ?_; clear hE a; intro a hE
  refine s_extract hE rfl rfl rfl ?_; clear hE a; intro a hE
  refine s_extract hE rfl rfl rfl ?_; clear hE a; intro a hE
  refine s_assign hE rfl rfl ?_; clear hE a; intro a hE
  refine s_assign hE rfl rfl ?_; clear hE a; intro a hE
  refine q_nil ?_
  replace hE : Env a 321 [(0, _), (1, _), (2, _), (3, _), (4, _), (5, _), (6, _), (7, _)] := hE.sel [0, 1, 2, 3, 4, 5, 6, 7] rfl
  refine hK4 _ _ ?_
  refine wp_seq_k (fun K5 hK5 => ?_)
  refine wp_plain [true, false, true, true, true, false, false, true] rfl rfl ?_
  refine s_move hE rfl rfl ?_; clear hE a; intro a hE
  obtain ⟨cs2, hs2⟩ := own_rd (hM.get 1 rfl)
  refine s_call hE rfl Tryd.call13 (ttagI_c b57 2 [9, 0, 0, 0, 0, 0, 0, 0, 0, 0, 0, 0, 0, 0, 0, 0, 0, 0, 0, 0, 0, 0, 0, 0, 0, 0, 0, 0, 0, 0, 0, 0] u57 (allT [9, 0, 0, 0, 0, 0, 0, 0, 0, 0, 0, 0, 0, 0, 0, 0, 0, 0, 0, 0, 0, 0, 0, 0, 0, 0, 0, 0, 0, 0, 0, 0] (2 ^ 2) (padL (2 ^ 2) ([[1, 0, 0, 0, 0, 0, 0, 0, 0, 0, 0, 0, 0, 0, 0, 0, 0, 0, 0, 0, 0, 0, 0, 0, 0, 0, 0, 0, 0, 0, 0, 0], [2, 0, 0, 0, 0, 0, 0, 0, 0, 0, 0, 0, 0, 0, 0, 0, 0, 0, 0, 0, 0, 0, 0, 0, 0, 0, 0, 0, 0, 0, 0, 0], [3, 0, 0, 0, 0, 0, 0, 0, 0, 0, 0, 0, 0, 0, 0, 0, 0, 0, 0, 0, 0, 0, 0, 0, 0, 0, 0, 0, 0, 0, 0, 0]] : List (List UInt8)))) cs2 4 _ (hM.get 0 rfl) hs2 (by first | (simp; done) | (simp [*]; done) | (simp; omega)) (OkTs.all (OkTs.pad hrl56)) (by first | decide | omega) (allT_len (Nat.le_of_eq (padL_length (by first | decide | simp))))) rfl ?_
  rintro e w13 ⟨rfl, hN⟩
  refine ⟨_, rfl, trivial, ?_⟩; clear hE a; intro a hE
  replace hM : Mem _ _ w13 [_, _, _, _, _, _, _, _, _] := hM.call0 hN trivial; clear hN
  replace hE := hE.cast 62 rfl (show _ = Value.tuple #[.agg (bv [1, 0, 0, 0, 0, 0, 0, 0, 0, 0, 0, 0, 0, 0, 0, 0, 0, 0, 0, 0, 0, 0, 0, 0, 0, 0, 0, 0, 0, 0, 0, 0]).toArray, .int .i64 0] from tup2 (n := 0) kt4 (eZ_0 (by decide)))
  refine s_move hE rfl rfl ?_; clear hE a; intro a hE
  refine s_extract hE rfl rfl rfl ?_; clear hE a; intro a hE
  refine s_extract hE rfl rfl rfl ?_; clear hE a; intro a hE
  refine s_alloc [32] hE hM zero34 rfl rfl ?_; clear hE a; intro a b8 w14 hE hM'
  clear hM; have hM := hM'; clear hM'
  refine s_storeSeg 0 hE rfl rfl hM rfl sz34 ((bv_length _).trans rfl) (bv_one _) rfl ((bv_length _).trans (by first | (simp; done) | (simp [*]; done) | (simp; omega))) rfl (by intro X h; cases h) ?_; intro w15 hM'; clear hM; have hM := hM'; clear hM'
  simp only [List.set_cons_zero, List.set_cons_succ] at hM
  refine s_assign hE rfl rfl ?_; clear hE a; intro a hE
  refine q_nil ?_
  replace hE : Env a 321 [(0, _), (1, _), (2, _), (3, _), (4, _), (5, _), (6, _), (7, _), (8, _), (9, _)] := hE.sel [0, 1, 2, 3, 4, 5, 6, 7, 8, 9] rfl
  refine hK5 _ _ ?_
  refine wp_seq_k (fun K6 hK6 => ?_)
  refine wp_plain [true, false, true, true, true, false, false, true] rfl rfl ?_
  refine s_move hE rfl rfl ?_; clear hE a; intro a hE
  obtain ⟨cs3, hs3⟩ := own_rd (hM.get 2 rfl)
  refine s_call hE rfl Tryd.call13 (ttagI_c b57 2 [9, 0, 0, 0, 0, 0, 0, 0, 0, 0, 0, 0, 0, 0, 0, 0, 0, 0, 0, 0, 0, 0, 0, 0, 0, 0, 0, 0, 0, 0, 0, 0] u57 (allT [9, 0, 0, 0, 0, 0, 0, 0, 0, 0, 0, 0, 0, 0, 0, 0, 0, 0, 0, 0, 0, 0, 0, 0, 0, 0, 0, 0, 0, 0, 0, 0] (2 ^ 2) (padL (2 ^ 2) ([[1, 0, 0, 0, 0, 0, 0, 0, 0, 0, 0, 0, 0, 0, 0, 0, 0, 0, 0, 0, 0, 0, 0, 0, 0, 0, 0, 0, 0, 0, 0, 0], [2, 0, 0, 0, 0, 0, 0, 0, 0, 0, 0, 0, 0, 0, 0, 0, 0, 0, 0, 0, 0, 0, 0, 0, 0, 0, 0, 0, 0, 0, 0, 0], [3, 0, 0, 0, 0, 0, 0, 0, 0, 0, 0, 0, 0, 0, 0, 0, 0, 0, 0, 0, 0, 0, 0, 0, 0, 0, 0, 0, 0, 0, 0, 0]] : List (List UInt8)))) cs3 7 _ (hM.get 1 rfl) hs3 (by first | (simp; done) | (simp [*]; done) | (simp; omega)) (OkTs.all (OkTs.pad hrl56)) (by first | decide | omega) (allT_len (Nat.le_of_eq (padL_length (by first | decide | simp))))) rfl ?_
  rintro e w16 ⟨rfl, hN⟩
  refine ⟨_, rfl, trivial, ?_⟩; clear hE a; intro a hE
  replace hM : Mem _ _ w16 [_, _, _, _, _, _, _, _, _, _] := hM.call0 hN trivial; clear hN
  replace hE := hE.cast 67 rfl (show _ = Value.tuple #[.agg (bv (List.replicate 32 (0 : UInt8))).toArray, .int .i64 0] from tup2 (n := 0) kt7 (eZ_0 (by decide)))
  refine s_move hE rfl rfl ?_; clear hE a; intro a hE
  refine s_extract hE rfl rfl rfl ?_; clear hE a; intro a hE
  refine s_extract hE rfl rfl rfl ?_; clear hE a; intro a hE
  refine s_alloc [32] hE hM zero34 rfl rfl ?_; clear hE a; intro a b10 w17 hE hM'
  clear hM; have hM := hM'; clear hM'
  refine s_storeSeg 0 hE rfl rfl hM rfl sz34 ((bv_length _).trans List.length_replicate) (bv_one _) rfl ((bv_length _).trans (by first | (simp; done) | (simp [*]; done) | (simp; omega))) rfl (by intro X h; cases h) ?_; intro w18 hM'; clear hM; have hM := hM'; clear hM'
  simp only [List.set_cons_zero, List.set_cons_succ] at hM
  refine s_assign hE rfl rfl ?_; clear hE a; intro a hE
  refine q_nil ?_
  replace hE : Env a 321 [(0, _), (1, _), (2, _), (3, _), (4, _), (5, _), (6, _), (7, _), (8, _), (9, _), (10, _), (11, _)] := hE.sel [0, 1, 2, 3, 4, 5, 6, 7, 8, 9, 10, 11] rfl
  refine hK6 _ _ ?_
  refine wp_seq_k (fun K7 hK7 => ?_)
  refine wp_plain [true, false, true, true, true, false, false, true] rfl rfl ?_
  refine s_move hE rfl rfl ?_; clear hE a; intro a hE
  obtain ⟨cs4, hs4⟩ := own_rd (hM.get 3 rfl)
  refine s_call hE rfl Tryd.call13 (ttagI_c b57 2 [9, 0, 0, 0, 0, 0, 0, 0, 0, 0, 0, 0, 0, 0, 0, 0, 0, 0, 0, 0, 0, 0, 0, 0, 0, 0, 0, 0, 0, 0, 0, 0] u57 (allT [9, 0, 0, 0, 0, 0, 0, 0, 0, 0, 0, 0, 0, 0, 0, 0, 0, 0, 0, 0, 0, 0, 0, 0, 0, 0, 0, 0, 0, 0, 0, 0] (2 ^ 2) (padL (2 ^ 2) ([[1, 0, 0, 0, 0, 0, 0, 0, 0, 0, 0, 0, 0, 0, 0, 0, 0, 0, 0, 0, 0, 0, 0, 0, 0, 0, 0, 0, 0, 0, 0, 0], [2, 0, 0, 0, 0, 0, 0, 0, 0, 0, 0, 0, 0, 0, 0, 0, 0, 0, 0, 0, 0, 0, 0, 0, 0, 0, 0, 0, 0, 0, 0, 0], [3, 0, 0, 0, 0, 0, 0, 0, 0, 0, 0, 0, 0, 0, 0, 0, 0, 0, 0, 0, 0, 0, 0, 0, 0, 0, 0, 0, 0, 0, 0, 0]] : List (List UInt8)))) cs4 2 _ (hM.get 2 rfl) hs4 (by first | (simp; done) | (simp [*]; done) | (simp; omega)) (OkTs.all (OkTs.pad hrl56)) (by first | decide | omega) (allT_len (Nat.le_of_eq (padL_length (by first | decide | simp))))) rfl ?_
  rintro e w19 ⟨rfl, hN⟩
  refine ⟨_, rfl, trivial, ?_⟩; clear hE a; intro a hE
  replace hM : Mem _ _ w19 [_, _, _, _, _, _, _, _, _, _, _] := hM.call0 hN trivial; clear hN
  replace hE := hE.cast 72 rfl (show _ = Value.tuple #[.agg (bv (nd [9, 0, 0, 0, 0, 0, 0, 0, 0, 0, 0, 0, 0, 0, 0, 0, 0, 0, 0, 0, 0, 0, 0, 0, 0, 0, 0, 0, 0, 0, 0, 0] 2 ([1, 0, 0, 0, 0, 0, 0, 0, 0, 0, 0, 0, 0, 0, 0, 0, 0, 0, 0, 0, 0, 0, 0, 0, 0, 0, 0, 0, 0, 0, 0, 0] ++ [2, 0, 0, 0, 0, 0, 0, 0, 0, 0, 0, 0, 0, 0, 0, 0, 0, 0, 0, 0, 0, 0, 0, 0, 0, 0, 0, 0, 0, 0, 0, 0]))).toArray, .int .i64 0] from tup2 (n := 0) kt2 (eZ_0 (by decide)))
  refine s_move hE rfl rfl ?_; clear hE a; intro a hE
  refine s_extract hE rfl rfl rfl ?_; clear hE a; intro a hE
  refine s_extract hE rfl rfl rfl ?_; clear hE a; intro a hE
  refine s_alloc [32] hE hM zero34 rfl rfl ?_; clear hE a; intro a b12 w20 hE hM'
  clear hM; have hM := hM'; clear hM'
  refine s_storeSeg 0 hE rfl rfl hM rfl sz34 ((bv_length _).trans (nd_len ..)) (bv_one _) rfl ((bv_length _).trans (by first | (simp; done) | (simp [*]; done) | (simp; omega))) rfl (by intro X h; cases h) ?_; intro w21 hM'; clear hM; have hM := hM'; clear hM'
  simp only [List.set_cons_zero, List.set_cons_succ] at hM
  refine s_assign hE rfl rfl ?_; clear hE a; intro a hE
  refine q_nil ?_
  replace hE : Env a 321 [(0, _), (1, _), (2, _), (3, _), (4, _), (5, _), (6, _), (7, _), (8, _), (9, _), (10, _), (11, _), (12, _), (13, _)] := hE.sel [0, 1, 2, 3, 4, 5, 6, 7, 8, 9, 10, 11, 12, 13] rfl
  refine hK7 _ _ ?_
  refine wp_seq_k (fun K8 hK8 => ?_)
  refine wp_plain [true, false, true, true, true, false, false, true] rfl rfl ?_
  refine s_move hE rfl rfl ?_; clear hE a; intro a hE
  obtain ⟨cs5, hs5⟩ := own_rd (hM.get 4 rfl)
  refine s_call hE rfl Tryd.call24 (tnodeI_c b57 2 [9, 0, 0, 0, 0, 0, 0, 0, 0, 0, 0, 0, 0, 0, 0, 0, 0, 0, 0, 0, 0, 0, 0, 0, 0, 0, 0, 0, 0, 0, 0, 0] u57 (allT [9, 0, 0, 0, 0, 0, 0, 0, 0, 0, 0, 0, 0, 0, 0, 0, 0, 0, 0, 0, 0, 0, 0, 0, 0, 0, 0, 0, 0, 0, 0, 0] (2 ^ 2) (padL (2 ^ 2) ([[1, 0, 0, 0, 0, 0, 0, 0, 0, 0, 0, 0, 0, 0, 0, 0, 0, 0, 0, 0, 0, 0, 0, 0, 0, 0, 0, 0, 0, 0, 0, 0], [2, 0, 0, 0, 0, 0, 0, 0, 0, 0, 0, 0, 0, 0, 0, 0, 0, 0, 0, 0, 0, 0, 0, 0, 0, 0, 0, 0, 0, 0, 0, 0], [3, 0, 0, 0, 0, 0, 0, 0, 0, 0, 0, 0, 0, 0, 0, 0, 0, 0, 0, 0, 0, 0, 0, 0, 0, 0, 0, 0, 0, 0, 0, 0]] : List (List UInt8)))) cs5 3 _ (hM.get 3 rfl) hs5 (by first | (simp; done) | (simp [*]; done) | (simp; omega)) (OkTs.all (OkTs.pad hrl56)) (by first | decide | omega) (allT_len (Nat.le_of_eq (padL_length (by first | decide | simp))))) rfl ?_
  rintro e w22 ⟨rfl, hN⟩
  refine ⟨_, rfl, trivial, ?_⟩; clear hE a; intro a hE
  replace hM : Mem _ _ w22 [_, _, _, _, _, _, _, _, _, _, _, _] := hM.call0 hN trivial; clear hN
  replace hE := hE.cast 77 rfl (show _ = Value.tuple #[.agg (bv ([3, 0, 0, 0, 0, 0, 0, 0, 0, 0, 0, 0, 0, 0, 0, 0, 0, 0, 0, 0, 0, 0, 0, 0, 0, 0, 0, 0, 0, 0, 0, 0] ++ List.replicate 32 (0 : UInt8))).toArray, .int .i64 0] from tup2 (n := 0) kn3 (eZ_0 (by decide)))
  refine s_move hE rfl rfl ?_; clear hE a; intro a hE
  refine s_extract hE rfl rfl rfl ?_; clear hE a; intro a hE
  refine s_extract hE rfl rfl rfl ?_; clear hE a; intro a hE
  refine s_alloc [64] hE hM zero52 rfl rfl ?_; clear hE a; intro a b14 w23 hE hM'
  clear hM; have hM := hM'; clear hM'
  refine s_storeSeg 0 hE rfl rfl hM rfl sz52 ((bv_length _).trans rfl) (bv_one _) rfl ((bv_length _).trans (by first | (simp; done) | (simp [*]; done) | (simp; omega))) rfl (by intro X h; cases h) ?_; intro w24 hM'; clear hM; have hM := hM'; clear hM'
  simp only [List.set_cons_zero, List.set_cons_succ] at hM
  refine s_assign hE rfl rfl ?_; clear hE a; intro a hE
  refine q_nil ?_
  replace hE : Env a 321 [(0, _), (1, _), (2, _), (3, _), (4, _), (5, _), (6, _), (7, _), (8, _), (9, _), (10, _), (11, _), (12, _), (13, _), (14, _), (15, _)] := hE.sel [0, 1, 2, 3, 4, 5, 6, 7, 8, 9, 10, 11, 12, 13, 14, 15] rfl
  refine hK8 _ _ ?_
  refine wp_seq_k (fun K9 hK9 => ?_)
  refine wp_plain [true, false, true, true, true, false, false, true] rfl rfl ?_
  refine s_move hE rfl rfl ?_; clear hE a; intro a hE
  obtain ⟨cs6, hs6⟩ := own_rd (hM.get 5 rfl)
  refine s_call hE rfl Tryd.call13 (ttagI_c b57 2 [9, 0, 0, 0, 0, 0, 0, 0, 0, 0, 0, 0, 0, 0, 0, 0, 0, 0, 0, 0, 0, 0, 0, 0, 0, 0, 0, 0, 0, 0, 0, 0] u57 (allT [9, 0, 0, 0, 0, 0, 0, 0, 0, 0, 0, 0, 0, 0, 0, 0, 0, 0, 0, 0, 0, 0, 0, 0, 0, 0, 0, 0, 0, 0, 0, 0] (2 ^ 2) (padL (2 ^ 2) ([[1, 0, 0, 0, 0, 0, 0, 0, 0, 0, 0, 0, 0, 0, 0, 0, 0, 0, 0, 0, 0, 0, 0, 0, 0, 0, 0, 0, 0, 0, 0, 0], [2, 0, 0, 0, 0, 0, 0, 0, 0, 0, 0, 0, 0, 0, 0, 0, 0, 0, 0, 0, 0, 0, 0, 0, 0, 0, 0, 0, 0, 0, 0, 0], [3, 0, 0, 0, 0, 0, 0, 0, 0, 0, 0, 0, 0, 0, 0, 0, 0, 0, 0, 0, 0, 0, 0, 0, 0, 0, 0, 0, 0, 0, 0, 0]] : List (List UInt8)))) cs6 3 _ (hM.get 4 rfl) hs6 (by first | (simp; done) | (simp [*]; done) | (simp; omega)) (OkTs.all (OkTs.pad hrl56)) (by first | decide | omega) (allT_len (Nat.le_of_eq (padL_length (by first | decide | simp))))) rfl ?_
  rintro e w25 ⟨rfl, hN⟩
  refine ⟨_, rfl, trivial, ?_⟩; clear hE a; intro a hE
  replace hM : Mem _ _ w25 [_, _, _, _, _, _, _, _, _, _, _, _, _] := hM.call0 hN trivial; clear hN
  replace hE := hE.cast 82 rfl (show _ = Value.tuple #[.agg (bv (nd [9, 0, 0, 0, 0, 0, 0, 0, 0, 0, 0, 0, 0, 0, 0, 0, 0, 0, 0, 0, 0, 0, 0, 0, 0, 0, 0, 0, 0, 0, 0, 0] 3 ([3, 0, 0, 0, 0, 0, 0, 0, 0, 0, 0, 0, 0, 0, 0, 0, 0, 0, 0, 0, 0, 0, 0, 0, 0, 0, 0, 0, 0, 0, 0, 0] ++ List.replicate 32 (0 : UInt8)))).toArray, .int .i64 0] from tup2 (n := 0) kt3 (eZ_0 (by decide)))
  refine s_move hE rfl rfl ?_; clear hE a; intro a hE
  refine s_extract hE rfl rfl rfl ?_; clear hE a; intro a hE
  refine s_extract hE rfl rfl rfl ?_; clear hE a; intro a hE
  refine s_alloc [32] hE hM zero34 rfl rfl ?_; clear hE a; intro a b16 w26 hE hM'
  clear hM; have hM := hM'; clear hM'
  refine s_storeSeg 0 hE rfl rfl hM rfl sz34 ((bv_length _).trans (nd_len ..)) (bv_one _) rfl ((bv_length _).trans (by first | (simp; done) | (simp [*]; done) | (simp; omega))) rfl (by intro X h; cases h) ?_; intro w27 hM'; clear hM; have hM := hM'; clear hM'
  simp only [List.set_cons_zero, List.set_cons_succ] at hM
  refine s_assign hE rfl rfl ?_; clear hE a; intro a hE
  refine q_nil ?_
  replace hE : Env a 321 [(0, _), (1, _), (2, _), (3, _), (4, _), (5, _), (6, _), (7, _), (8, _), (9, _), (10, _), (11, _), (12, _), (13, _), (14, _), (15, _), (16, _), (17, _)] := hE.sel [0, 1, 2, 3, 4, 5, 6, 7, 8, 9, 10, 11, 12, 13, 14, 15, 16, 17] rfl
  refine hK9 _ _ ?_
  refine wp_seq_k (fun K10 hK10 => ?_)
  refine wp_treeM hM (by kernel_rfl) (fun _ => True) (fun _ => True) (.re [(0, true), (1, true), (2, true), (3, false), (4, false), (5, false), (6, false)] (.fl 0 (.weak (.fl 3 (.or 3 (.re [(4, false), (5, false), (6, false)] (.fl 0 (.fl 0 (.or 4 (.re [(5, false), (6, false)] (.fl 0 (.fl 0 (.or 5 (.cut (.re [(6, false)] (.fl 0 (.fl 0 (.weak (.or 6 (.cut (.re [] (.weak (.leaf 0)))) (.stop))))))) (.stop))))) (.or 5 (.cut (.re [(4, false), (6, false)] (.fl 0 (.fl 0 (.or 4 (.re [(6, false)] (.fl 0 (.fl 0 (.weak (.or 6 (.cut (.re [] (.weak (.leaf 0)))) (.stop)))))) (.stop)))))) (.stop)))))) (.or 5 (.re [(3, false), (4, false), (6, false)] (.fl 0 (.fl 0 (.or 3 (.cut (.re [(4, false), (6, false)] (.fl 0 (.fl 0 (.or 4 (.re [(6, false)] (.fl 0 (.fl 0 (.weak (.or 6 (.cut (.re [] (.weak (.leaf 0)))) (.stop)))))) (.stop)))))) (.stop))))) (.stop))))))) [(0, true), (1, true), (2, true), (3, false), (4, false), (5, false), (6, false)] [(0, [(4, 0), (6, 0)]), (1, [(3, 1), (4, 3), (6, 1)]), (2, [(3, 2), (4, 3), (6, 2)]), (3, [(4, 3), (6, 3)]), (4, [(6, 4)]), (5, [(6, 5)]), (6, [])] (by kernel_rfl) ?_
  intro w28 hM' hww28; clear hM; have hM := hM'; clear hM'
  refine o_re ?_
  refine o_fl rfl ?_
  refine q_nil (q_nx ?_)
  refine o_weak (fun _ => False) (fun _ _ => trivial) ?_
  refine o_fl rfl ?_
  refine s_loadN hE rfl (hM.get 12 rfl) row23 rfl (by intro X h; cases h; simp) rfl ?_; clear hE a; intro a hE
  refine s_loadN hE rfl (hM.get 2 rfl) row34 rfl (by intro X h; cases h; simp) rfl ?_; clear hE a; intro a hE
  refine s_loadN hE rfl (hM.get 0 rfl) row34 rfl (by intro X h; cases h; simp) rfl ?_; clear hE a; intro a hE
  refine q_nil (q_nx ?_)
  refine o_or rfl ?_ ?_
  · refine s_call hE rfl Tryd.call28 (bjoin_c (nd [9, 0, 0, 0, 0, 0, 0, 0, 0, 0, 0, 0, 0, 0, 0, 0, 0, 0, 0, 0, 0, 0, 0, 0, 0, 0, 0, 0, 0, 0, 0, 0] 2 ([1, 0, 0, 0, 0, 0, 0, 0, 0, 0, 0, 0, 0, 0, 0, 0, 0, 0, 0, 0, 0, 0, 0, 0, 0, 0, 0, 0, 0, 0, 0, 0] ++ [2, 0, 0, 0, 0, 0, 0, 0, 0, 0, 0, 0, 0, 0, 0, 0, 0, 0, 0, 0, 0, 0, 0, 0, 0, 0, 0, 0, 0, 0, 0, 0])) (nd [9, 0, 0, 0, 0, 0, 0, 0, 0, 0, 0, 0, 0, 0, 0, 0, 0, 0, 0, 0, 0, 0, 0, 0, 0, 0, 0, 0, 0, 0, 0, 0] 3 ([3, 0, 0, 0, 0, 0, 0, 0, 0, 0, 0, 0, 0, 0, 0, 0, 0, 0, 0, 0, 0, 0, 0, 0, 0, 0, 0, 0, 0, 0, 0, 0] ++ List.replicate 32 (0 : UInt8))) _ (nd_len ..) (nd_len ..)) rfl ?_
    rintro e w29 ⟨rfl, hN⟩
    refine ⟨_, rfl, hN.sta0 _, ?_⟩; clear hE a; intro a hE
    replace hM : Mem _ _ w29 [_, _, _, _, _, _, _, _, _, _, _, _, _, _] := hM.call0 hN trivial; clear hN
    refine q_nil (q_nx ?_)
    refine o_re ?_
    refine o_fl rfl ?_
    refine q_nil (q_nx ?_)
    refine o_fl rfl ?_
    refine q_nil (q_nx ?_)
    refine o_or rfl ?_ ?_
    · refine s_call hE rfl Tryd.call17 (tnode_c [9, 0, 0, 0, 0, 0, 0, 0, 0, 0, 0, 0, 0, 0, 0, 0, 0, 0, 0, 0, 0, 0, 0, 0, 0, 0, 0, 0, 0, 0, 0, 0] ((1 : Nat) : Int) ((nd [9, 0, 0, 0, 0, 0, 0, 0, 0, 0, 0, 0, 0, 0, 0, 0, 0, 0, 0, 0, 0, 0, 0, 0, 0, 0, 0, 0, 0, 0, 0, 0] 2 ([1, 0, 0, 0, 0, 0, 0, 0, 0, 0, 0, 0, 0, 0, 0, 0, 0, 0, 0, 0, 0, 0, 0, 0, 0, 0, 0, 0, 0, 0, 0, 0] ++ [2, 0, 0, 0, 0, 0, 0, 0, 0, 0, 0, 0, 0, 0, 0, 0, 0, 0, 0, 0, 0, 0, 0, 0, 0, 0, 0, 0, 0, 0, 0, 0])) ++ (nd [9, 0, 0, 0, 0, 0, 0, 0, 0, 0, 0, 0, 0, 0, 0, 0, 0, 0, 0, 0, 0, 0, 0, 0, 0, 0, 0, 0, 0, 0, 0, 0] 3 ([3, 0, 0, 0, 0, 0, 0, 0, 0, 0, 0, 0, 0, 0, 0, 0, 0, 0, 0, 0, 0, 0, 0, 0, 0, 0, 0, 0, 0, 0, 0, 0] ++ List.replicate 32 (0 : UInt8)))) _ (hM.get 13 rfl) (by first | (simp; done) | (simp [*]; done) | (simp; omega)) (List.length_append.trans (congr (congrArg HAdd.hAdd (nd_len ..)) (nd_len ..)))) rfl ?_
      rintro e w30 ⟨rfl, hN⟩
      refine ⟨_, rfl, hN.sta0 _, ?_⟩; clear hE a; intro a hE
      replace hM : Mem _ _ w30 [_, _, _, _, _, _, _, _, _, _, _, _, _, _] := hM.call0 hN trivial; clear hN
      replace hE := hE.cast 89 rfl (show _ = Value.agg (bv (nd [9, 0, 0, 0, 0, 0, 0, 0, 0, 0, 0, 0, 0, 0, 0, 0, 0, 0, 0, 0, 0, 0, 0, 0, 0, 0, 0, 0, 0, 0, 0, 0] 1 ((nd [9, 0, 0, 0, 0, 0, 0, 0, 0, 0, 0, 0, 0, 0, 0, 0, 0, 0, 0, 0, 0, 0, 0, 0, 0, 0, 0, 0, 0, 0, 0, 0] 2 ([1, 0, 0, 0, 0, 0, 0, 0, 0, 0, 0, 0, 0, 0, 0, 0, 0, 0, 0, 0, 0, 0, 0, 0, 0, 0, 0, 0, 0, 0, 0, 0] ++ [2, 0, 0, 0, 0, 0, 0, 0, 0, 0, 0, 0, 0, 0, 0, 0, 0, 0, 0, 0, 0, 0, 0, 0, 0, 0, 0, 0, 0, 0, 0, 0])) ++ (nd [9, 0, 0, 0, 0, 0, 0, 0, 0, 0, 0, 0, 0, 0, 0, 0, 0, 0, 0, 0, 0, 0, 0, 0, 0, 0, 0, 0, 0, 0, 0, 0] 3 ([3, 0, 0, 0, 0, 0, 0, 0, 0, 0, 0, 0, 0, 0, 0, 0, 0, 0, 0, 0, 0, 0, 0, 0, 0, 0, 0, 0, 0, 0, 0, 0] ++ List.replicate 32 (0 : UInt8)))))).toArray from rfl)
      refine q_nil (q_nx ?_)
      refine o_re ?_
      refine o_fl rfl ?_
      refine q_nil (q_nx ?_)
      refine o_fl rfl ?_
      refine q_nil (q_nx ?_)
      refine o_or rfl ?_ ?_
      · refine s_alloc [32] hE hM zero34 rfl rfl ?_; clear hE a; intro a b18 w31 hE hM'
        clear hM; have hM := hM'; clear hM'
        refine q_nil (q_nx ?_)
        refine o_cut (fun _ => True) ?_
        refine o_re ?_
        refine o_fl rfl ?_
        refine q_nil (q_nx ?_)
        refine o_fl rfl ?_
        refine q_nil (q_nx ?_)
        refine o_weak (fun b => b = b18) (fun _ _ => trivial) ?_
        refine o_or rfl ?_ ?_
        · refine s_storeSeg 0 hE rfl rfl hM rfl sz34 ((bv_length _).trans (nd_len ..)) (bv_one _) rfl ((bv_length _).trans (by first | (simp; done) | (simp [*]; done) | (simp; omega))) rfl (by intro X h; cases h; rfl) ?_; intro w32 hM'; clear hM; have hM := hM'; clear hM'
          simp only [List.set_cons_zero, List.set_cons_succ] at hM
          refine q_nil (q_nx ?_)
          refine o_cut (fun _ => True) ?_
          refine o_re ?_
          refine o_weak (fun _ => False) (fun _ _ => trivial) ?_
          refine o_leaf rfl rfl ?_
          refine q_nil (q_ph (q_nil ?_))
          replace hE : Env a 321 [(0, _), (1, _), (2, _), (3, _), (4, _), (5, _), (6, _), (7, _), (8, _), (9, _), (10, _), (11, _), (12, _), (13, _), (14, _), (15, _), (16, _), (17, _), (18, _)] := hE.sel [0, 1, 2, 3, 4, 5, 6, 7, 8, 9, 10, 11, 12, 13, 14, 15, 16, 17, 18] rfl
          refine hK10 _ _ ?_
          refine wp_seq_k (fun K11 hK11 => ?_)
          refine wp_seq_k (fun K12 hK12 => ?_)
          refine wp_drawnM hM (by kernel_rfl) (fun _ => False) [(0, true), (1, true), (2, true), (3, true), (4, true), (5, true), (6, true), (7, true), (8, true), (9, true), (10, true), (11, true), (12, true), (13, true), (14, true), (15, true), (16, true), (17, true), (18, true), (19, true), (20, true), (21, true), (22, true), (23, true), (24, true), (25, false), (26, false), (27, true), (28, true), (29, true), (30, true), (31, true), (32, true), (33, true), (34, true), (35, true), (36, true), (37, false), (38, true), (39, true), (40, true), (41, true), (42, true), (43, true), (44, true), (45, true), (46, true), (47, true), (48, true), (49, true), (51, true), (50, false), (52, true), (53, true)] [(25, [(26, 25), (27, 26), (28, 27), (29, 26), (30, 29), (31, 29), (32, 29), (33, 32), (34, 33), (35, 33), (36, 33), (37, 33), (38, 33), (39, 33), (40, 37), (41, 40), (42, 40), (43, 40), (44, 40), (45, 44), (46, 44), (47, 44), (48, 44), (49, 48), (51, 48), (50, 48), (52, 48), (53, 48)]), (26, [(27, 26), (28, 27), (29, 26), (30, 29), (31, 29), (32, 29), (33, 32), (34, 33), (35, 33), (36, 33), (37, 33), (38, 33), (39, 33), (40, 37), (41, 40), (42, 40), (43, 40), (44, 40), (45, 44), (46, 44), (47, 44), (48, 44), (49, 48), (51, 48), (50, 48), (52, 48), (53, 48)]), (37, [(38, 37), (39, 38), (40, 37), (41, 40), (42, 40), (43, 40), (44, 40), (45, 44), (46, 44), (47, 44), (48, 44), (49, 48), (51, 48), (50, 48), (52, 48), (53, 48)]), (50, [(52, 50), (53, 52)])] (by kernel_rfl) rfl ?_
          intro w33 hM' hww33; clear hM; have hM := hM'; clear hM'
          refine s_move hE rfl rfl ?_; clear hE a; intro a hE
          refine s_bin hE rfl rfl bin_neq rfl ?_; clear hE a; intro a hE
          replace hE := hE.cast 91 rfl (show _ = Value.bool false from (congrArg Value.bool (by decide)))
          refine s_move hE rfl rfl ?_; clear hE a; intro a hE
          refine g_yes hE rfl rfl ?_
          refine s_loadN hE rfl (hM.get 5 rfl) row34 rfl (by intro X h; cases h; simp) rfl ?_; clear hE a; intro a hE
          refine g_yes hE rfl rfl ?_
          refine s_loadN hE rfl (hM.get 12 rfl) row34 rfl (by intro X h; cases h; simp) rfl ?_; clear hE a; intro a hE
          refine g_yes hE rfl rfl ?_
          refine s_bin hE rfl rfl (eqa34 rfl (by first | (simp; done) | (simp [*]; done) | (simp; omega))).2 rfl ?_; clear hE a; intro a hE
          refine s_pickf hE rfl rfl rfl ?_; clear hE a; intro a hE
          refine s_move hE rfl rfl ?_; clear hE a; intro a hE
          replace hE := hE.cast 97 rfl (show _ = Value.bool false from (congrArg Value.bool (by first | rfl | simp)))
          refine g_yes hE rfl rfl ?_
          refine s_move hE rfl rfl ?_; clear hE a; intro a hE
          refine g_yes hE rfl rfl ?_
          refine s_bin hE rfl rfl bin_neq rfl ?_; clear hE a; intro a hE
          replace hE := hE.cast 99 rfl (show _ = Value.bool false from (congrArg Value.bool (by decide)))
          refine s_pickf hE rfl rfl rfl ?_; clear hE a; intro a hE
          refine s_move hE rfl rfl ?_; clear hE a; intro a hE
          refine g_yes hE rfl rfl ?_
          refine s_loadN hE rfl (hM.get 4 rfl) row34 rfl (by intro X h; cases h; simp) rfl ?_; clear hE a; intro a hE
          refine g_yes hE rfl rfl ?_
          refine s_build (r := .agg (bv (List.replicate 32 (0 : UInt8))).toArray) _ hE rfl (fun w => by kernel_rfl) rfl ?_; clear hE a; intro a hE
          refine g_yes hE rfl rfl ?_
          refine s_bin hE rfl rfl (eqa34 List.length_replicate (by first | (simp; done) | (simp [*]; done) | (simp; omega))).2 rfl ?_; clear hE a; intro a hE
          refine s_pickf hE rfl rfl rfl ?_; clear hE a; intro a hE
          refine s_move hE rfl rfl ?_; clear hE a; intro a hE
          replace hE := hE.cast 106 rfl (show _ = Value.bool false from (congrArg Value.bool (by first | rfl | simp)))
          refine g_yes hE rfl rfl ?_
          refine s_move hE rfl rfl ?_; clear hE a; intro a hE
          refine g_yes hE rfl rfl ?_
          refine s_bin hE rfl rfl bin_neq rfl ?_; clear hE a; intro a hE
          replace hE := hE.cast 108 rfl (show _ = Value.bool false from (congrArg Value.bool (by decide)))
          refine s_pickf hE rfl rfl rfl ?_; clear hE a; intro a hE
          refine s_move hE rfl rfl ?_; clear hE a; intro a hE
          refine g_yes hE rfl rfl ?_
          refine s_loadN hE rfl (hM.get 3 rfl) row34 rfl (by intro X h; cases h; simp) rfl ?_; clear hE a; intro a hE
          refine g_yes hE rfl rfl ?_
          refine s_loadN hE rfl (hM.get 13 rfl) row23 rfl (by intro X h; cases h; simp) rfl ?_; clear hE a; intro a hE
          refine g_yes hE rfl rfl ?_
          refine s_loadN hE rfl (hM.get 12 rfl) row34 rfl (by intro X h; cases h; simp) rfl ?_; clear hE a; intro a hE
          refine g_yes hE rfl rfl ?_
          refine s_loadN hE rfl (hM.get 11 rfl) row34 rfl (by intro X h; cases h; simp) rfl ?_; clear hE a; intro a hE
          refine g_yes hE rfl rfl ?_
          have hj115_0 : [1, 0, 0, 0, 0, 0, 0, 0, 0, 0, 0, 0, 0, 0, 0, 0, 0, 0, 0, 0, 0, 0, 0, 0, 0, 0, 0, 0, 0, 0, 0, 0].length = 32 := (by first | rfl | (simp; done) | (simp [*]; done) | (simp; omega))
          have hj115_1 : [2, 0, 0, 0, 0, 0, 0, 0, 0, 0, 0, 0, 0, 0, 0, 0, 0, 0, 0, 0, 0, 0, 0, 0, 0, 0, 0, 0, 0, 0, 0, 0].length = 32 := (by first | rfl | (simp; done) | (simp [*]; done) | (simp; omega))
          refine s_call hE rfl Tryd.call28 (bjoin_c [1, 0, 0, 0, 0, 0, 0, 0, 0, 0, 0, 0, 0, 0, 0, 0, 0, 0, 0, 0, 0, 0, 0, 0, 0, 0, 0, 0, 0, 0, 0, 0] [2, 0, 0, 0, 0, 0, 0, 0, 0, 0, 0, 0, 0, 0, 0, 0, 0, 0, 0, 0, 0, 0, 0, 0, 0, 0, 0, 0, 0, 0, 0, 0] _ hj115_0 hj115_1) rfl ?_
          rintro e w34 ⟨rfl, hN⟩
          refine ⟨_, rfl, hN.sta0 _, ?_⟩; clear hE a; intro a hE
          replace hM : Mem _ _ w34 [_, _, _, _, _, _, _, _, _, _, _, _, _, _, _] := hM.call0 hN trivial; clear hN
          refine g_yes hE rfl rfl ?_
          refine s_call hE rfl Tryd.call17 (tnode_c [9, 0, 0, 0, 0, 0, 0, 0, 0, 0, 0, 0, 0, 0, 0, 0, 0, 0, 0, 0, 0, 0, 0, 0, 0, 0, 0, 0, 0, 0, 0, 0] ((2 : Nat) : Int) ([1, 0, 0, 0, 0, 0, 0, 0, 0, 0, 0, 0, 0, 0, 0, 0, 0, 0, 0, 0, 0, 0, 0, 0, 0, 0, 0, 0, 0, 0, 0, 0] ++ [2, 0, 0, 0, 0, 0, 0, 0, 0, 0, 0, 0, 0, 0, 0, 0, 0, 0, 0, 0, 0, 0, 0, 0, 0, 0, 0, 0, 0, 0, 0, 0]) _ (hM.get 14 rfl) (by first | (simp; done) | (simp [*]; done) | (simp; omega)) (List.length_append.trans (congr (congrArg HAdd.hAdd hj115_0) hj115_1))) rfl ?_
          rintro e w35 ⟨rfl, hN⟩
          refine ⟨_, rfl, hN.sta0 _, ?_⟩; clear hE a; intro a hE
          replace hM : Mem _ _ w35 [_, _, _, _, _, _, _, _, _, _, _, _, _, _, _] := hM.call0 hN trivial; clear hN
          replace hE := hE.cast 116 rfl (show _ = Value.agg (bv (nd [9, 0, 0, 0, 0, 0, 0, 0, 0, 0, 0, 0, 0, 0, 0, 0, 0, 0, 0, 0, 0, 0, 0, 0, 0, 0, 0, 0, 0, 0, 0, 0] 2 ([1, 0, 0, 0, 0, 0, 0, 0, 0, 0, 0, 0, 0, 0, 0, 0, 0, 0, 0, 0, 0, 0, 0, 0, 0, 0, 0, 0, 0, 0, 0, 0] ++ [2, 0, 0, 0, 0, 0, 0, 0, 0, 0, 0, 0, 0, 0, 0, 0, 0, 0, 0, 0, 0, 0, 0, 0, 0, 0, 0, 0, 0, 0, 0, 0]))).toArray from rfl)
          refine g_yes hE rfl rfl ?_
          refine s_bin hE rfl rfl (eqa34 (nd_len ..) (nd_len ..)).2 rfl ?_; clear hE a; intro a hE
          refine s_pickf hE rfl rfl rfl ?_; clear hE a; intro a hE
          refine s_move hE rfl rfl ?_; clear hE a; intro a hE
          replace hE := hE.cast 119 rfl (show _ = Value.bool false from (congrArg Value.bool (by first | rfl | simp)))
          refine g_yes hE rfl rfl ?_
          refine s_move hE rfl rfl ?_; clear hE a; intro a hE
          refine g_yes hE rfl rfl ?_
          refine s_bin hE rfl rfl bin_neq rfl ?_; clear hE a; intro a hE
          replace hE := hE.cast 121 rfl (show _ = Value.bool false from (congrArg Value.bool (by decide)))
          refine s_pickf hE rfl rfl rfl ?_; clear hE a; intro a hE
          refine s_move hE rfl rfl ?_; clear hE a; intro a hE
          refine g_yes hE rfl rfl ?_
          refine s_loadN hE rfl (hM.get 2 rfl) row52 rfl (by intro X h; cases h; simp) rfl ?_; clear hE a; intro a hE
          refine g_yes hE rfl rfl ?_
          refine s_loadN hE rfl (hM.get 10 rfl) row34 rfl (by intro X h; cases h; simp) rfl ?_; clear hE a; intro a hE
          refine g_yes hE rfl rfl ?_
          refine s_build (r := .agg (bv (List.replicate 32 (0 : UInt8))).toArray) _ hE rfl (fun w => by kernel_rfl) rfl ?_; clear hE a; intro a hE
          refine g_yes hE rfl rfl ?_
          have hj127_0 : [3, 0, 0, 0, 0, 0, 0, 0, 0, 0, 0, 0, 0, 0, 0, 0, 0, 0, 0, 0, 0, 0, 0, 0, 0, 0, 0, 0, 0, 0, 0, 0].length = 32 := (by first | rfl | (simp; done) | (simp [*]; done) | (simp; omega))
          have hj127_1 : (List.replicate 32 (0 : UInt8)).length = 32 := (by first | rfl | (simp; done) | (simp [*]; done) | (simp; omega))
          refine s_call hE rfl Tryd.call28 (bjoin_c [3, 0, 0, 0, 0, 0, 0, 0, 0, 0, 0, 0, 0, 0, 0, 0, 0, 0, 0, 0, 0, 0, 0, 0, 0, 0, 0, 0, 0, 0, 0, 0] (List.replicate 32 (0 : UInt8)) _ hj127_0 hj127_1) rfl ?_
          rintro e w36 ⟨rfl, hN⟩
          refine ⟨_, rfl, hN.sta0 _, ?_⟩; clear hE a; intro a hE
          replace hM : Mem _ _ w36 [_, _, _, _, _, _, _, _, _, _, _, _, _, _, _] := hM.call0 hN trivial; clear hN
          refine g_yes hE rfl rfl ?_
          refine s_bin hE rfl rfl (eqa52 rfl (List.length_append.trans (congr (congrArg HAdd.hAdd hj127_0) hj127_1))).2 rfl ?_; clear hE a; intro a hE
          refine s_pickf hE rfl rfl rfl ?_; clear hE a; intro a hE
          refine s_move hE rfl rfl ?_; clear hE a; intro a hE
          replace hE := hE.cast 130 rfl (show _ = Value.bool false from (congrArg Value.bool (by first | rfl | simp)))
          refine g_yes hE rfl rfl ?_
          refine s_move hE rfl rfl ?_; clear hE a; intro a hE
          refine g_yes hE rfl rfl ?_
          refine s_bin hE rfl rfl bin_neq rfl ?_; clear hE a; intro a hE
          replace hE := hE.cast 132 rfl (show _ = Value.bool false from (congrArg Value.bool (by decide)))
          refine s_pickf hE rfl rfl rfl ?_; clear hE a; intro a hE
          refine s_move hE rfl rfl ?_; clear hE a; intro a hE
          refine g_yes hE rfl rfl ?_
          refine s_move hE rfl rfl ?_; clear hE a; intro a hE
          refine g_yes hE rfl rfl ?_
          refine s_bin hE rfl rfl bin_neq rfl ?_; clear hE a; intro a hE
          replace hE := hE.cast 136 rfl (show _ = Value.bool false from (congrArg Value.bool (by decide)))
          refine s_pickf hE rfl rfl rfl ?_; clear hE a; intro a hE
          refine s_move hE rfl rfl ?_; clear hE a; intro a hE
          refine g_yes hE rfl rfl ?_
          refine s_move hE rfl rfl ?_; clear hE a; intro a hE
          refine g_yes hE rfl rfl ?_
          refine s_loadN hE rfl (hM.get 0 rfl) row34 rfl (by intro X h; cases h; simp) rfl ?_; clear hE a; intro a hE
          refine g_yes hE rfl rfl ?_
          obtain ⟨cs7, hs7⟩ := own_rd (hM.get 7 rfl)
          refine s_call hE rfl Tryd.call12 (ttop_c b57 2 [9, 0, 0, 0, 0, 0, 0, 0, 0, 0, 0, 0, 0, 0, 0, 0, 0, 0, 0, 0, 0, 0, 0, 0, 0, 0, 0, 0, 0, 0, 0, 0] u57 (allT [9, 0, 0, 0, 0, 0, 0, 0, 0, 0, 0, 0, 0, 0, 0, 0, 0, 0, 0, 0, 0, 0, 0, 0, 0, 0, 0, 0, 0, 0, 0, 0] (2 ^ 2) (padL (2 ^ 2) ([[1, 0, 0, 0, 0, 0, 0, 0, 0, 0, 0, 0, 0, 0, 0, 0, 0, 0, 0, 0, 0, 0, 0, 0, 0, 0, 0, 0, 0, 0, 0, 0], [2, 0, 0, 0, 0, 0, 0, 0, 0, 0, 0, 0, 0, 0, 0, 0, 0, 0, 0, 0, 0, 0, 0, 0, 0, 0, 0, 0, 0, 0, 0, 0], [3, 0, 0, 0, 0, 0, 0, 0, 0, 0, 0, 0, 0, 0, 0, 0, 0, 0, 0, 0, 0, 0, 0, 0, 0, 0, 0, 0, 0, 0, 0, 0]] : List (List UInt8)))) cs7 _ (hM.get 6 rfl) hs7 (by first | (simp; done) | (simp [*]; done) | (simp; omega)) (OkTs.all (OkTs.pad hrl56)) (by first | decide | omega) (allT_len (Nat.le_of_eq (padL_length (by first | decide | simp))))) rfl ?_
          rintro e w37 ⟨rfl, hN⟩
          refine ⟨_, rfl, hN.sta0 _, ?_⟩; clear hE a; intro a hE
          replace hM : Mem _ _ w37 [_, _, _, _, _, _, _, _, _, _, _, _, _, _, _] := hM.call0 hN trivial; clear hN
          refine g_yes hE rfl rfl ?_
          refine s_bin hE rfl rfl (eqa34 (OkTs.get (OkTs.all (OkTs.pad hrl56)) 1) (nd_len ..)).2 rfl ?_; clear hE a; intro a hE
          refine s_pickf hE rfl rfl rfl ?_; clear hE a; intro a hE
          refine q_nil ?_
          replace hE : Env a 321 [(0, _), (1, _), (2, _), (3, _), (4, _), (5, _), (6, _), (8, _), (10, _), (12, _), (14, _), (16, _), (18, _), (143, _)] := hE.sel [0, 1, 2, 3, 4, 5, 6, 8, 10, 12, 14, 16, 18, 143] rfl
          refine hK12 _ _ ?_
          replace hE := hE.cast 143 rfl (show _ = Value.bool false from (congrArg Value.bool (by rw [ktop]; simp)))
          refine wp_cond_false (hE.eval rfl) ?_
          refine wp_skip ?_
          refine hK11 _ _ ?_
          refine wp_seq_k (fun K13 hK13 => ?_)
          refine wp_plain [true, true, false, true, true, true, true, true] rfl rfl ?_
          refine s_move hE rfl rfl ?_; clear hE a; intro a hE
          refine s_loadN hE rfl (hM.get 9 rfl) row34 rfl (by intro X h; cases h) rfl ?_; clear hE a; intro a hE
          replace hM : Mem _ _ w37 [_, _, _, _, _, _, _, _, _, _, _, _, _, _, _] := hM.pick [7, 0, 1, 2, 3, 4, 5, 6, 8, 9, 10, 11, 12, 13, 14] rfl
          refine s_call hE rfl Tryd.call11 (tsetI_c b57 2 [9, 0, 0, 0, 0, 0, 0, 0, 0, 0, 0, 0, 0, 0, 0, 0, 0, 0, 0, 0, 0, 0, 0, 0, 0, 0, 0, 0, 0, 0, 0, 0] [4, 0, 0, 0, 0, 0, 0, 0, 0, 0, 0, 0, 0, 0, 0, 0, 0, 0, 0, 0, 0, 0, 0, 0, 0, 0, 0, 0, 0, 0, 0, 0] u57 (padL (2 ^ 2) ([[1, 0, 0, 0, 0, 0, 0, 0, 0, 0, 0, 0, 0, 0, 0, 0, 0, 0, 0, 0, 0, 0, 0, 0, 0, 0, 0, 0, 0, 0, 0, 0], [2, 0, 0, 0, 0, 0, 0, 0, 0, 0, 0, 0, 0, 0, 0, 0, 0, 0, 0, 0, 0, 0, 0, 0, 0, 0, 0, 0, 0, 0, 0, 0], [3, 0, 0, 0, 0, 0, 0, 0, 0, 0, 0, 0, 0, 0, 0, 0, 0, 0, 0, 0, 0, 0, 0, 0, 0, 0, 0, 0, 0, 0, 0, 0]] : List (List UInt8))) 3 _ (hM.get 14 rfl) (hM.get 7 rfl) (hM.get 0 rfl) (fun x hx => ((apart_of_get hM.apart (i := 0) (j := 7) rfl rfl (by decide)).1 x hx).1) (fun x hx => ((apart_of_get hM.apart (i := 0) (j := 14) rfl rfl (by decide)).1 x hx).2) (by first | (simp; done) | (simp [*]; done) | (simp; omega)) (OkTs.pad hrl56) (by first | decide | omega) (padL_length (by first | decide | simp)) (by first | (simp; done) | (simp [*]; done) | (simp; omega))) rfl ?_
          rintro e w38 ⟨q147, rfl, hN⟩
          refine ⟨_, rfl, trivial, ?_⟩; clear hE a; intro a hE
          replace hM : Mem _ _ w38 [_, _, _, _, _, _, _, _, _, _, _, _, _, _, _, _] := hM.call1' hN ⟨rfl, rfl, trivial⟩; clear hN
          replace hE := hE.cast 147 rfl (show _ = Value.tuple #[q147, .int .i64 0] from tupE (n := 0) (eZ_0 (by decide)))
          replace hM := Mem.ownRowsEq (f := intC) (ls := chgZ [9, 0, 0, 0, 0, 0, 0, 0, 0, 0, 0, 0, 0, 0, 0, 0, 0, 0, 0, 0, 0, 0, 0, 0, 0, 0, 0, 0, 0, 0, 0, 0] 2 (padL (2 ^ 2) ([[1, 0, 0, 0, 0, 0, 0, 0, 0, 0, 0, 0, 0, 0, 0, 0, 0, 0, 0, 0, 0, 0, 0, 0, 0, 0, 0, 0, 0, 0, 0, 0], [2, 0, 0, 0, 0, 0, 0, 0, 0, 0, 0, 0, 0, 0, 0, 0, 0, 0, 0, 0, 0, 0, 0, 0, 0, 0, 0, 0, 0, 0, 0, 0], [3, 0, 0, 0, 0, 0, 0, 0, 0, 0, 0, 0, 0, 0, 0, 0, 0, 0, 0, 0, 0, 0, 0, 0, 0, 0, 0, 0, 0, 0, 0, 0]] : List (List UInt8))) 3 [4, 0, 0, 0, 0, 0, 0, 0, 0, 0, 0, 0, 0, 0, 0, 0, 0, 0, 0, 0, 0, 0, 0, 0, 0, 0, 0, 0, 0, 0, 0, 0]) (ms := ([3, 1] : List Nat)) hM kn_chg
          refine s_move hE rfl rfl ?_; clear hE a; intro a hE
          refine s_extract hE rfl rfl rfl ?_; clear hE a; intro a hE
          refine s_extract hE rfl rfl rfl ?_; clear hE a; intro a hE
          refine s_assign hE rfl rfl ?_; clear hE a; intro a hE
          refine s_assign hE rfl rfl ?_; clear hE a; intro a hE
          refine q_nil ?_
          replace hE : Env a 321 [(0, _), (1, _), (2, _), (3, _), (4, _), (5, _), (6, _), (8, _), (10, _), (12, _), (14, _), (16, _), (18, _), (19, _), (20, _), (143, _)] := hE.sel [0, 1, 2, 3, 4, 5, 6, 8, 10, 12, 14, 16, 18, 19, 20, 143] rfl
          refine hK13 _ _ ?_
          refine wp_seq_k (fun K14 hK14 => ?_)
          refine wp_plain [true, true, false, true, true, true, true, true] rfl rfl ?_
          refine s_move hE rfl rfl ?_; clear hE a; intro a hE
          refine s_loadN hE rfl (hM.get 10 rfl) row34 rfl (by intro X h; cases h) rfl ?_; clear hE a; intro a hE
          replace hM : Mem _ _ w38 [_, _, _, _, _, _, _, _, _, _, _, _, _, _, _, _] := hM.pick [1, 0, 2, 3, 4, 5, 6, 7, 8, 9, 10, 11, 12, 13, 14, 15] rfl
          refine s_call hE rfl Tryd.call11 (tsetI_c b57 2 [9, 0, 0, 0, 0, 0, 0, 0, 0, 0, 0, 0, 0, 0, 0, 0, 0, 0, 0, 0, 0, 0, 0, 0, 0, 0, 0, 0, 0, 0, 0, 0] [4, 0, 0, 0, 0, 0, 0, 0, 0, 0, 0, 0, 0, 0, 0, 0, 0, 0, 0, 0, 0, 0, 0, 0, 0, 0, 0, 0, 0, 0, 0, 0] u57 (lvZ (padL (2 ^ 2) ([[1, 0, 0, 0, 0, 0, 0, 0, 0, 0, 0, 0, 0, 0, 0, 0, 0, 0, 0, 0, 0, 0, 0, 0, 0, 0, 0, 0, 0, 0, 0, 0], [2, 0, 0, 0, 0, 0, 0, 0, 0, 0, 0, 0, 0, 0, 0, 0, 0, 0, 0, 0, 0, 0, 0, 0, 0, 0, 0, 0, 0, 0, 0, 0], [3, 0, 0, 0, 0, 0, 0, 0, 0, 0, 0, 0, 0, 0, 0, 0, 0, 0, 0, 0, 0, 0, 0, 0, 0, 0, 0, 0, 0, 0, 0, 0]] : List (List UInt8))) 2 3 [4, 0, 0, 0, 0, 0, 0, 0, 0, 0, 0, 0, 0, 0, 0, 0, 0, 0, 0, 0, 0, 0, 0, 0, 0, 0, 0, 0, 0, 0, 0, 0]) 3 _ (hM.get 15 rfl) (hM.get 8 rfl) (hM.get 0 rfl) (fun x hx => ((apart_of_get hM.apart (i := 0) (j := 8) rfl rfl (by decide)).1 x hx).1) (fun x hx => ((apart_of_get hM.apart (i := 0) (j := 15) rfl rfl (by decide)).1 x hx).2) (by first | (simp; done) | (simp [*]; done) | (simp; omega)) (lvZ_ok (OkTs.pad hrl56) (by first | (simp; done) | (simp [*]; done) | (simp; omega))) (by first | decide | omega) (lvZ_len.trans (padL_length (by first | decide | simp))) (by first | (simp; done) | (simp [*]; done) | (simp; omega))) rfl ?_
          rintro e w39 ⟨q153, rfl, hN⟩
          refine ⟨_, rfl, trivial, ?_⟩; clear hE a; intro a hE
          replace hM : Mem _ _ w39 [_, _, _, _, _, _, _, _, _, _, _, _, _, _, _, _, _] := hM.call1' hN ⟨rfl, rfl, trivial⟩; clear hN
          replace hE := hE.cast 153 rfl (show _ = Value.tuple #[q153, .int .i64 0] from tupE (n := 0) (eZ_0 (by decide)))
          replace hM := Mem.ownRowsEq (f := intC) (ls := chgZ [9, 0, 0, 0, 0, 0, 0, 0, 0, 0, 0, 0, 0, 0, 0, 0, 0, 0, 0, 0, 0, 0, 0, 0, 0, 0, 0, 0, 0, 0, 0, 0] 2 (lvZ (padL (2 ^ 2) ([[1, 0, 0, 0, 0, 0, 0, 0, 0, 0, 0, 0, 0, 0, 0, 0, 0, 0, 0, 0, 0, 0, 0, 0, 0, 0, 0, 0, 0, 0, 0, 0], [2, 0, 0, 0, 0, 0, 0, 0, 0, 0, 0, 0, 0, 0, 0, 0, 0, 0, 0, 0, 0, 0, 0, 0, 0, 0, 0, 0, 0, 0, 0, 0], [3, 0, 0, 0, 0, 0, 0, 0, 0, 0, 0, 0, 0, 0, 0, 0, 0, 0, 0, 0, 0, 0, 0, 0, 0, 0, 0, 0, 0, 0, 0, 0]] : List (List UInt8))) 2 3 [4, 0, 0, 0, 0, 0, 0, 0, 0, 0, 0, 0, 0, 0, 0, 0, 0, 0, 0, 0, 0, 0, 0, 0, 0, 0, 0, 0, 0, 0, 0, 0]) 3 [4, 0, 0, 0, 0, 0, 0, 0, 0, 0, 0, 0, 0, 0, 0, 0, 0, 0, 0, 0, 0, 0, 0, 0, 0, 0, 0, 0, 0, 0, 0, 0]) (ms := ([] : List Nat)) hM (ex_again rfl)
          refine s_move hE rfl rfl ?_; clear hE a; intro a hE
          refine s_extract hE rfl rfl rfl ?_; clear hE a; intro a hE
          refine s_extract hE rfl rfl rfl ?_; clear hE a; intro a hE
          refine s_assign hE rfl rfl ?_; clear hE a; intro a hE
          refine s_assign hE rfl rfl ?_; clear hE a; intro a hE
          refine q_nil ?_
          replace hE : Env a 321 [(0, _), (1, _), (2, _), (3, _), (4, _), (5, _), (6, _), (8, _), (10, _), (12, _), (14, _), (16, _), (18, _), (19, _), (20, _), (21, _), (22, _), (143, _)] := hE.sel [0, 1, 2, 3, 4, 5, 6, 8, 10, 12, 14, 16, 18, 19, 20, 21, 22, 143] rfl
          refine hK14 _ _ ?_
          refine wp_seq_k (fun K15 hK15 => ?_)
          refine wp_plain [true, true, false, true, true, true, true, true] rfl rfl ?_
          refine s_move hE rfl rfl ?_; clear hE a; intro a hE
          refine s_loadN hE rfl (hM.get 11 rfl) row34 rfl (by intro X h; cases h) rfl ?_; clear hE a; intro a hE
          replace hM : Mem _ _ w39 [_, _, _, _, _, _, _, _, _, _, _, _, _, _, _, _, _] := hM.pick [1, 0, 2, 3, 4, 5, 6, 7, 8, 9, 10, 11, 12, 13, 14, 15, 16] rfl
          refine s_call hE rfl Tryd.call11 (tsetI_c b57 2 [9, 0, 0, 0, 0, 0, 0, 0, 0, 0, 0, 0, 0, 0, 0, 0, 0, 0, 0, 0, 0, 0, 0, 0, 0, 0, 0, 0, 0, 0, 0, 0] [4, 0, 0, 0, 0, 0, 0, 0, 0, 0, 0, 0, 0, 0, 0, 0, 0, 0, 0, 0, 0, 0, 0, 0, 0, 0, 0, 0, 0, 0, 0, 0] u57 (lvZ (lvZ (padL (2 ^ 2) ([[1, 0, 0, 0, 0, 0, 0, 0, 0, 0, 0, 0, 0, 0, 0, 0, 0, 0, 0, 0, 0, 0, 0, 0, 0, 0, 0, 0, 0, 0, 0, 0], [2, 0, 0, 0, 0, 0, 0, 0, 0, 0, 0, 0, 0, 0, 0, 0, 0, 0, 0, 0, 0, 0, 0, 0, 0, 0, 0, 0, 0, 0, 0, 0], [3, 0, 0, 0, 0, 0, 0, 0, 0, 0, 0, 0, 0, 0, 0, 0, 0, 0, 0, 0, 0, 0, 0, 0, 0, 0, 0, 0, 0, 0, 0, 0]] : List (List UInt8))) 2 3 [4, 0, 0, 0, 0, 0, 0, 0, 0, 0, 0, 0, 0, 0, 0, 0, 0, 0, 0, 0, 0, 0, 0, 0, 0, 0, 0, 0, 0, 0, 0, 0]) 2 3 [4, 0, 0, 0, 0, 0, 0, 0, 0, 0, 0, 0, 0, 0, 0, 0, 0, 0, 0, 0, 0, 0, 0, 0, 0, 0, 0, 0, 0, 0, 0, 0]) 4 _ (hM.get 16 rfl) (hM.get 9 rfl) (hM.get 0 rfl) (fun x hx => ((apart_of_get hM.apart (i := 0) (j := 9) rfl rfl (by decide)).1 x hx).1) (fun x hx => ((apart_of_get hM.apart (i := 0) (j := 16) rfl rfl (by decide)).1 x hx).2) (by first | (simp; done) | (simp [*]; done) | (simp; omega)) (lvZ_ok (lvZ_ok (OkTs.pad hrl56) (by first | (simp; done) | (simp [*]; done) | (simp; omega))) (by first | (simp; done) | (simp [*]; done) | (simp; omega))) (by first | decide | omega) (lvZ_len.trans (lvZ_len.trans (padL_length (by first | decide | simp)))) (by first | (simp; done) | (simp [*]; done) | (simp; omega))) rfl ?_
          rintro e w40 ⟨q159, rfl, hN⟩
          refine ⟨_, rfl, trivial, ?_⟩; clear hE a; intro a hE
          replace hM : Mem _ _ w40 [_, _, _, _, _, _, _, _, _, _, _, _, _, _, _, _, _, _] := hM.call1' hN ⟨rfl, rfl, trivial⟩; clear hN
          replace hE := hE.cast 159 rfl (show _ = Value.tuple #[q159, .int .i64 2] from tupE (n := 2) (eZ_out (by decide)))
          refine s_move hE rfl rfl ?_; clear hE a; intro a hE
          refine s_extract hE rfl rfl rfl ?_; clear hE a; intro a hE
          refine s_extract hE rfl rfl rfl ?_; clear hE a; intro a hE
          refine s_assign hE rfl rfl ?_; clear hE a; intro a hE
          refine s_assign hE rfl rfl ?_; clear hE a; intro a hE
          refine q_nil ?_
          replace hE : Env a 321 [(0, _), (1, _), (2, _), (3, _), (4, _), (5, _), (6, _), (8, _), (10, _), (12, _), (14, _), (16, _), (18, _), (19, _), (20, _), (21, _), (22, _), (24, _), (143, _)] := hE.sel [0, 1, 2, 3, 4, 5, 6, 8, 10, 12, 14, 16, 18, 19, 20, 21, 22, 24, 143] rfl
          refine hK15 _ _ ?_
          refine wp_seq_k (fun K16 hK16 => ?_)
          refine wp_plain [false, true] rfl rfl ?_
          refine s_call hE rfl Tryd.call15 (tpathI_c 2 3 _) rfl ?_
          rintro e w41 ⟨v162, rfl, hN⟩
          refine ⟨_, rfl, trivial, ?_⟩; clear hE a; intro a hE
          replace hM : Mem _ _ w41 [_, _, _, _, _, _, _, _, _, _, _, _, _, _, _, _, _, _, _] := hM.call0 hN ⟨rfl, trivial⟩; clear hN
          replace hM := Mem.ownRowsEq (f := intC) (ls := pathZ 2 3) (ms := ([3, 1] : List Nat)) hM kp23
          refine s_assign hE rfl rfl ?_; clear hE a; intro a hE
          refine q_nil ?_
          replace hE : Env a 321 [(0, _), (1, _), (2, _), (3, _), (4, _), (5, _), (6, _), (8, _), (10, _), (12, _), (14, _), (16, _), (18, _), (19, _), (20, _), (21, _), (22, _), (24, _), (25, _), (143, _)] := hE.sel [0, 1, 2, 3, 4, 5, 6, 8, 10, 12, 14, 16, 18, 19, 20, 21, 22, 24, 25, 143] rfl
          refine hK16 _ _ ?_
          refine wp_seq_k (fun K17 hK17 => ?_)
          refine wp_plain [true, false, true, true, true, false, false, true] rfl rfl ?_
          refine s_move hE rfl rfl ?_; clear hE a; intro a hE
          obtain ⟨cs8, hs8⟩ := own_rd (hM.get 2 rfl)
          refine s_call hE rfl Tryd.call24 (tnodeI_c b57 2 [9, 0, 0, 0, 0, 0, 0, 0, 0, 0, 0, 0, 0, 0, 0, 0, 0, 0, 0, 0, 0, 0, 0, 0, 0, 0, 0, 0, 0, 0, 0, 0] u57 (allT [9, 0, 0, 0, 0, 0, 0, 0, 0, 0, 0, 0, 0, 0, 0, 0, 0, 0, 0, 0, 0, 0, 0, 0, 0, 0, 0, 0, 0, 0, 0, 0] (2 ^ 2) (lvZ (lvZ (lvZ (padL (2 ^ 2) ([[1, 0, 0, 0, 0, 0, 0, 0, 0, 0, 0, 0, 0, 0, 0, 0, 0, 0, 0, 0, 0, 0, 0, 0, 0, 0, 0, 0, 0, 0, 0, 0], [2, 0, 0, 0, 0, 0, 0, 0, 0, 0, 0, 0, 0, 0, 0, 0, 0, 0, 0, 0, 0, 0, 0, 0, 0, 0, 0, 0, 0, 0, 0, 0], [3, 0, 0, 0, 0, 0, 0, 0, 0, 0, 0, 0, 0, 0, 0, 0, 0, 0, 0, 0, 0, 0, 0, 0, 0, 0, 0, 0, 0, 0, 0, 0]] : List (List UInt8))) 2 3 [4, 0, 0, 0, 0, 0, 0, 0, 0, 0, 0, 0, 0, 0, 0, 0, 0, 0, 0, 0, 0, 0, 0, 0, 0, 0, 0, 0, 0, 0, 0, 0]) 2 3 [4, 0, 0, 0, 0, 0, 0, 0, 0, 0, 0, 0, 0, 0, 0, 0, 0, 0, 0, 0, 0, 0, 0, 0, 0, 0, 0, 0, 0, 0, 0, 0]) 2 4 [4, 0, 0, 0, 0, 0, 0, 0, 0, 0, 0, 0, 0, 0, 0, 0, 0, 0, 0, 0, 0, 0, 0, 0, 0, 0, 0, 0, 0, 0, 0, 0])) cs8 4 _ (hM.get 11 rfl) hs8 (by first | (simp; done) | (simp [*]; done) | (simp; omega)) (OkTs.all (lvZ_ok (lvZ_ok (lvZ_ok (OkTs.pad hrl56) (by first | (simp; done) | (simp [*]; done) | (simp; omega))) (by first | (simp; done) | (simp [*]; done) | (simp; omega))) (by first | (simp; done) | (simp [*]; done) | (simp; omega)))) (by first | decide | omega) (allT_len (Nat.le_of_eq (lvZ_len.trans (lvZ_len.trans (lvZ_len.trans (padL_length (by first | decide | simp)))))))) rfl ?_
          rintro e w42 ⟨rfl, hN⟩
          refine ⟨_, rfl, trivial, ?_⟩; clear hE a; intro a hE
          replace hM : Mem _ _ w42 [_, _, _, _, _, _, _, _, _, _, _, _, _, _, _, _, _, _, _] := hM.call0 hN trivial; clear hN
          replace hE := hE.cast 165 rfl (show _ = Value.tuple #[.agg (bv (nodeZ (allT [9, 0, 0, 0, 0, 0, 0, 0, 0, 0, 0, 0, 0, 0, 0, 0, 0, 0, 0, 0, 0, 0, 0, 0, 0, 0, 0, 0, 0, 0, 0, 0] (2 ^ 2) (lvZ (lvZ (lvZ (padL (2 ^ 2) ([[1, 0, 0, 0, 0, 0, 0, 0, 0, 0, 0, 0, 0, 0, 0, 0, 0, 0, 0, 0, 0, 0, 0, 0, 0, 0, 0, 0, 0, 0, 0, 0], [2, 0, 0, 0, 0, 0, 0, 0, 0, 0, 0, 0, 0, 0, 0, 0, 0, 0, 0, 0, 0, 0, 0, 0, 0, 0, 0, 0, 0, 0, 0, 0], [3, 0, 0, 0, 0, 0, 0, 0, 0, 0, 0, 0, 0, 0, 0, 0, 0, 0, 0, 0, 0, 0, 0, 0, 0, 0, 0, 0, 0, 0, 0, 0]] : List (List UInt8))) 2 3 [4, 0, 0, 0, 0, 0, 0, 0, 0, 0, 0, 0, 0, 0, 0, 0, 0, 0, 0, 0, 0, 0, 0, 0, 0, 0, 0, 0, 0, 0, 0, 0]) 2 3 [4, 0, 0, 0, 0, 0, 0, 0, 0, 0, 0, 0, 0, 0, 0, 0, 0, 0, 0, 0, 0, 0, 0, 0, 0, 0, 0, 0, 0, 0, 0, 0]) 2 4 [4, 0, 0, 0, 0, 0, 0, 0, 0, 0, 0, 0, 0, 0, 0, 0, 0, 0, 0, 0, 0, 0, 0, 0, 0, 0, 0, 0, 0, 0, 0, 0])) (2 ^ 2) 4)).toArray, .int .i64 2] from tupE (n := 2) (eZ_out (by decide)))
          refine s_move hE rfl rfl ?_; clear hE a; intro a hE
          refine s_extract hE rfl rfl rfl ?_; clear hE a; intro a hE
          refine s_extract hE rfl rfl rfl ?_; clear hE a; intro a hE
          refine s_alloc [64] hE hM zero52 rfl rfl ?_; clear hE a; intro a b26 w43 hE hM'
          clear hM; have hM := hM'; clear hM'
          refine s_storeSeg 0 hE rfl rfl hM rfl sz52 ((bv_length _).trans (nodeZ_len (OkTs.all (lvZ_ok (lvZ_ok (lvZ_ok (OkTs.pad hrl56) (by first | (simp; done) | (simp [*]; done) | (simp; omega))) (by first | (simp; done) | (simp [*]; done) | (simp; omega))) (by first | (simp; done) | (simp [*]; done) | (simp; omega)))))) (bv_one _) rfl ((bv_length _).trans (by first | (simp; done) | (simp [*]; done) | (simp; omega))) rfl (by intro X h; cases h) ?_; intro w44 hM'; clear hM; have hM := hM'; clear hM'
          simp only [List.set_cons_zero, List.set_cons_succ] at hM
          refine s_assign hE rfl rfl ?_; clear hE a; intro a hE
          refine q_nil ?_
          replace hE : Env a 321 [(0, _), (1, _), (2, _), (3, _), (4, _), (5, _), (6, _), (8, _), (10, _), (12, _), (14, _), (16, _), (18, _), (19, _), (20, _), (21, _), (22, _), (24, _), (25, _), (27, _), (143, _)] := hE.sel [0, 1, 2, 3, 4, 5, 6, 8, 10, 12, 14, 16, 18, 19, 20, 21, 22, 24, 25, 27, 143] rfl
          refine hK17 _ _ ?_
          refine wp_seq_k (fun K18 hK18 => ?_)
          refine wp_plain [true, false, true, true, true, false, false, true] rfl rfl ?_
          refine s_move hE rfl rfl ?_; clear hE a; intro a hE
          obtain ⟨cs9, hs9⟩ := own_rd (hM.get 3 rfl)
          refine s_call hE rfl Tryd.call13 (ttagI_c b57 2 [9, 0, 0, 0, 0, 0, 0, 0, 0, 0, 0, 0, 0, 0, 0, 0, 0, 0, 0, 0, 0, 0, 0, 0, 0, 0, 0, 0, 0, 0, 0, 0] u57 (allT [9, 0, 0, 0, 0, 0, 0, 0, 0, 0, 0, 0, 0, 0, 0, 0, 0, 0, 0, 0, 0, 0, 0, 0, 0, 0, 0, 0, 0, 0, 0, 0] (2 ^ 2) (lvZ (lvZ (lvZ (padL (2 ^ 2) ([[1, 0, 0, 0, 0, 0, 0, 0, 0, 0, 0, 0, 0, 0, 0, 0, 0, 0, 0, 0, 0, 0, 0, 0, 0, 0, 0, 0, 0, 0, 0, 0], [2, 0, 0, 0, 0, 0, 0, 0, 0, 0, 0, 0, 0, 0, 0, 0, 0, 0, 0, 0, 0, 0, 0, 0, 0, 0, 0, 0, 0, 0, 0, 0], [3, 0, 0, 0, 0, 0, 0, 0, 0, 0, 0, 0, 0, 0, 0, 0, 0, 0, 0, 0, 0, 0, 0, 0, 0, 0, 0, 0, 0, 0, 0, 0]] : List (List UInt8))) 2 3 [4, 0, 0, 0, 0, 0, 0, 0, 0, 0, 0, 0, 0, 0, 0, 0, 0, 0, 0, 0, 0, 0, 0, 0, 0, 0, 0, 0, 0, 0, 0, 0]) 2 3 [4, 0, 0, 0, 0, 0, 0, 0, 0, 0, 0, 0, 0, 0, 0, 0, 0, 0, 0, 0, 0, 0, 0, 0, 0, 0, 0, 0, 0, 0, 0, 0]) 2 4 [4, 0, 0, 0, 0, 0, 0, 0, 0, 0, 0, 0, 0, 0, 0, 0, 0, 0, 0, 0, 0, 0, 0, 0, 0, 0, 0, 0, 0, 0, 0, 0])) cs9 8 _ (hM.get 12 rfl) hs9 (by first | (simp; done) | (simp [*]; done) | (simp; omega)) (OkTs.all (lvZ_ok (lvZ_ok (lvZ_ok (OkTs.pad hrl56) (by first | (simp; done) | (simp [*]; done) | (simp; omega))) (by first | (simp; done) | (simp [*]; done) | (simp; omega))) (by first | (simp; done) | (simp [*]; done) | (simp; omega)))) (by first | decide | omega) (allT_len (Nat.le_of_eq (lvZ_len.trans (lvZ_len.trans (lvZ_len.trans (padL_length (by first | decide | simp)))))))) rfl ?_
          rintro e w45 ⟨rfl, hN⟩
          refine ⟨_, rfl, trivial, ?_⟩; clear hE a; intro a hE
          replace hM : Mem _ _ w45 [_, _, _, _, _, _, _, _, _, _, _, _, _, _, _, _, _, _, _, _] := hM.call0 hN trivial; clear hN
          replace hE := hE.cast 170 rfl (show _ = Value.tuple #[.agg (bv (tagZ (allT [9, 0, 0, 0, 0, 0, 0, 0, 0, 0, 0, 0, 0, 0, 0, 0, 0, 0, 0, 0, 0, 0, 0, 0, 0, 0, 0, 0, 0, 0, 0, 0] (2 ^ 2) (lvZ (lvZ (lvZ (padL (2 ^ 2) ([[1, 0, 0, 0, 0, 0, 0, 0, 0, 0, 0, 0, 0, 0, 0, 0, 0, 0, 0, 0, 0, 0, 0, 0, 0, 0, 0, 0, 0, 0, 0, 0], [2, 0, 0, 0, 0, 0, 0, 0, 0, 0, 0, 0, 0, 0, 0, 0, 0, 0, 0, 0, 0, 0, 0, 0, 0, 0, 0, 0, 0, 0, 0, 0], [3, 0, 0, 0, 0, 0, 0, 0, 0, 0, 0, 0, 0, 0, 0, 0, 0, 0, 0, 0, 0, 0, 0, 0, 0, 0, 0, 0, 0, 0, 0, 0]] : List (List UInt8))) 2 3 [4, 0, 0, 0, 0, 0, 0, 0, 0, 0, 0, 0, 0, 0, 0, 0, 0, 0, 0, 0, 0, 0, 0, 0, 0, 0, 0, 0, 0, 0, 0, 0]) 2 3 [4, 0, 0, 0, 0, 0, 0, 0, 0, 0, 0, 0, 0, 0, 0, 0, 0, 0, 0, 0, 0, 0, 0, 0, 0, 0, 0, 0, 0, 0, 0, 0]) 2 4 [4, 0, 0, 0, 0, 0, 0, 0, 0, 0, 0, 0, 0, 0, 0, 0, 0, 0, 0, 0, 0, 0, 0, 0, 0, 0, 0, 0, 0, 0, 0, 0])) (2 ^ 2) 8)).toArray, .int .i64 2] from tupE (n := 2) (eZ_out (by decide)))
          refine s_move hE rfl rfl ?_; clear hE a; intro a hE
          refine s_extract hE rfl rfl rfl ?_; clear hE a; intro a hE
          refine s_extract hE rfl rfl rfl ?_; clear hE a; intro a hE
          refine s_alloc [32] hE hM zero34 rfl rfl ?_; clear hE a; intro a b28 w46 hE hM'
          clear hM; have hM := hM'; clear hM'
          refine s_storeSeg 0 hE rfl rfl hM rfl sz34 ((bv_length _).trans (tagZ_len (OkTs.all (lvZ_ok (lvZ_ok (lvZ_ok (OkTs.pad hrl56) (by first | (simp; done) | (simp [*]; done) | (simp; omega))) (by first | (simp; done) | (simp [*]; done) | (simp; omega))) (by first | (simp; done) | (simp [*]; done) | (simp; omega)))))) (bv_one _) rfl ((bv_length _).trans (by first | (simp; done) | (simp [*]; done) | (simp; omega))) rfl (by intro X h; cases h) ?_; intro w47 hM'; clear hM; have hM := hM'; clear hM'
          simp only [List.set_cons_zero, List.set_cons_succ] at hM
          refine s_assign hE rfl rfl ?_; clear hE a; intro a hE
          refine q_nil ?_
          replace hE : Env a 321 [(0, _), (1, _), (2, _), (3, _), (4, _), (5, _), (6, _), (8, _), (10, _), (12, _), (14, _), (16, _), (18, _), (19, _), (20, _), (21, _), (22, _), (24, _), (25, _), (27, _), (29, _), (143, _)] := hE.sel [0, 1, 2, 3, 4, 5, 6, 8, 10, 12, 14, 16, 18, 19, 20, 21, 22, 24, 25, 27, 29, 143] rfl
          refine hK18 _ _ ?_
          refine wp_seq_k (fun K19 hK19 => ?_)
          refine wp_plain [true, false, true, true, true, false, false, true] rfl rfl ?_
          refine s_move hE rfl rfl ?_; clear hE a; intro a hE
          obtain ⟨cs10, hs10⟩ := own_rd (hM.get 4 rfl)
          refine s_call hE rfl Tryd.call13 (ttagI_c b57 2 [9, 0, 0, 0, 0, 0, 0, 0, 0, 0, 0, 0, 0, 0, 0, 0, 0, 0, 0, 0, 0, 0, 0, 0, 0, 0, 0, 0, 0, 0, 0, 0] u57 (allT [9, 0, 0, 0, 0, 0, 0, 0, 0, 0, 0, 0, 0, 0, 0, 0, 0, 0, 0, 0, 0, 0, 0, 0, 0, 0, 0, 0, 0, 0, 0, 0] (2 ^ 2) (lvZ (lvZ (lvZ (padL (2 ^ 2) ([[1, 0, 0, 0, 0, 0, 0, 0, 0, 0, 0, 0, 0, 0, 0, 0, 0, 0, 0, 0, 0, 0, 0, 0, 0, 0, 0, 0, 0, 0, 0, 0], [2, 0, 0, 0, 0, 0, 0, 0, 0, 0, 0, 0, 0, 0, 0, 0, 0, 0, 0, 0, 0, 0, 0, 0, 0, 0, 0, 0, 0, 0, 0, 0], [3, 0, 0, 0, 0, 0, 0, 0, 0, 0, 0, 0, 0, 0, 0, 0, 0, 0, 0, 0, 0, 0, 0, 0, 0, 0, 0, 0, 0, 0, 0, 0]] : List (List UInt8))) 2 3 [4, 0, 0, 0, 0, 0, 0, 0, 0, 0, 0, 0, 0, 0, 0, 0, 0, 0, 0, 0, 0, 0, 0, 0, 0, 0, 0, 0, 0, 0, 0, 0]) 2 3 [4, 0, 0, 0, 0, 0, 0, 0, 0, 0, 0, 0, 0, 0, 0, 0, 0, 0, 0, 0, 0, 0, 0, 0, 0, 0, 0, 0, 0, 0, 0, 0]) 2 4 [4, 0, 0, 0, 0, 0, 0, 0, 0, 0, 0, 0, 0, 0, 0, 0, 0, 0, 0, 0, 0, 0, 0, 0, 0, 0, 0, 0, 0, 0, 0, 0])) cs10 0 _ (hM.get 13 rfl) hs10 (by first | (simp; done) | (simp [*]; done) | (simp; omega)) (OkTs.all (lvZ_ok (lvZ_ok (lvZ_ok (OkTs.pad hrl56) (by first | (simp; done) | (simp [*]; done) | (simp; omega))) (by first | (simp; done) | (simp [*]; done) | (simp; omega))) (by first | (simp; done) | (simp [*]; done) | (simp; omega)))) (by first | decide | omega) (allT_len (Nat.le_of_eq (lvZ_len.trans (lvZ_len.trans (lvZ_len.trans (padL_length (by first | decide | simp)))))))) rfl ?_
          rintro e w48 ⟨rfl, hN⟩
          refine ⟨_, rfl, trivial, ?_⟩; clear hE a; intro a hE
          replace hM : Mem _ _ w48 [_, _, _, _, _, _, _, _, _, _, _, _, _, _, _, _, _, _, _, _, _] := hM.call0 hN trivial; clear hN
          replace hE := hE.cast 175 rfl (show _ = Value.tuple #[.agg (bv (tagZ (allT [9, 0, 0, 0, 0, 0, 0, 0, 0, 0, 0, 0, 0, 0, 0, 0, 0, 0, 0, 0, 0, 0, 0, 0, 0, 0, 0, 0, 0, 0, 0, 0] (2 ^ 2) (lvZ (lvZ (lvZ (padL (2 ^ 2) ([[1, 0, 0, 0, 0, 0, 0, 0, 0, 0, 0, 0, 0, 0, 0, 0, 0, 0, 0, 0, 0, 0, 0, 0, 0, 0, 0, 0, 0, 0, 0, 0], [2, 0, 0, 0, 0, 0, 0, 0, 0, 0, 0, 0, 0, 0, 0, 0, 0, 0, 0, 0, 0, 0, 0, 0, 0, 0, 0, 0, 0, 0, 0, 0], [3, 0, 0, 0, 0, 0, 0, 0, 0, 0, 0, 0, 0, 0, 0, 0, 0, 0, 0, 0, 0, 0, 0, 0, 0, 0, 0, 0, 0, 0, 0, 0]] : List (List UInt8))) 2 3 [4, 0, 0, 0, 0, 0, 0, 0, 0, 0, 0, 0, 0, 0, 0, 0, 0, 0, 0, 0, 0, 0, 0, 0, 0, 0, 0, 0, 0, 0, 0, 0]) 2 3 [4, 0, 0, 0, 0, 0, 0, 0, 0, 0, 0, 0, 0, 0, 0, 0, 0, 0, 0, 0, 0, 0, 0, 0, 0, 0, 0, 0, 0, 0, 0, 0]) 2 4 [4, 0, 0, 0, 0, 0, 0, 0, 0, 0, 0, 0, 0, 0, 0, 0, 0, 0, 0, 0, 0, 0, 0, 0, 0, 0, 0, 0, 0, 0, 0, 0])) (2 ^ 2) 0)).toArray, .int .i64 2] from tupE (n := 2) (eZ_out (by decide)))
          refine s_move hE rfl rfl ?_; clear hE a; intro a hE
          refine s_extract hE rfl rfl rfl ?_; clear hE a; intro a hE
          refine s_extract hE rfl rfl rfl ?_; clear hE a; intro a hE
          refine s_alloc [32] hE hM zero34 rfl rfl ?_; clear hE a; intro a b30 w49 hE hM'
          clear hM; have hM := hM'; clear hM'
          refine s_storeSeg 0 hE rfl rfl hM rfl sz34 ((bv_length _).trans (tagZ_len (OkTs.all (lvZ_ok (lvZ_ok (lvZ_ok (OkTs.pad hrl56) (by first | (simp; done) | (simp [*]; done) | (simp; omega))) (by first | (simp; done) | (simp [*]; done) | (simp; omega))) (by first | (simp; done) | (simp [*]; done) | (simp; omega)))))) (bv_one _) rfl ((bv_length _).trans (by first | (simp; done) | (simp [*]; done) | (simp; omega))) rfl (by intro X h; cases h) ?_; intro w50 hM'; clear hM; have hM := hM'; clear hM'
          simp only [List.set_cons_zero, List.set_cons_succ] at hM
          refine s_assign hE rfl rfl ?_; clear hE a; intro a hE
          refine q_nil ?_
          replace hE : Env a 321 [(0, _), (1, _), (2, _), (3, _), (4, _), (5, _), (6, _), (8, _), (10, _), (12, _), (14, _), (16, _), (18, _), (19, _), (20, _), (21, _), (22, _), (24, _), (25, _), (27, _), (29, _), (31, _), (143, _)] := hE.sel [0, 1, 2, 3, 4, 5, 6, 8, 10, 12, 14, 16, 18, 19, 20, 21, 22, 24, 25, 27, 29, 31, 143] rfl
          refine hK19 _ _ ?_
          refine wp_seq_k (fun K20 hK20 => ?_)
          refine wp_plain [true, false, true, true, true, true, true] rfl rfl ?_
          refine s_loadN hE rfl (hM.get 20 rfl) row23 rfl (by intro X h; cases h) rfl ?_; clear hE a; intro a hE
          refine s_call hE rfl Tryd.call10 (tnew_no1 [9, 0, 0, 0, 0, 0, 0, 0, 0, 0, 0, 0, 0, 0, 0, 0, 0, 0, 0, 0, 0, 0, 0, 0, 0, 0, 0, 0, 0, 0, 0, 0] 0 _ ([] : List (List UInt8)) _ _ (by first | (simp; done) | (simp [*]; done) | (simp; omega)) (rd_nilR 32 _) ok_nil (by omega)) rfl ?_
          rintro e w51 ⟨rfl, hN⟩
          refine ⟨_, rfl, trivial, ?_⟩; clear hE a; intro a hE
          replace hM : Mem _ _ w51 [_, _, _, _, _, _, _, _, _, _, _, _, _, _, _, _, _, _, _, _, _, _] := hM.call0 hN trivial; clear hN
          refine s_move hE rfl rfl ?_; clear hE a; intro a hE
          refine s_extract hE rfl rfl rfl ?_; clear hE a; intro a hE
          refine s_extract hE rfl rfl rfl ?_; clear hE a; intro a hE
          refine s_assign hE rfl rfl ?_; clear hE a; intro a hE
          refine s_assign hE rfl rfl ?_; clear hE a; intro a hE
          refine q_nil ?_
          replace hE : Env a 321 [(0, _), (1, _), (2, _), (3, _), (4, _), (5, _), (6, _), (8, _), (10, _), (12, _), (14, _), (16, _), (18, _), (19, _), (20, _), (21, _), (22, _), (24, _), (25, _), (27, _), (29, _), (31, _), (33, _), (143, _)] := hE.sel [0, 1, 2, 3, 4, 5, 6, 8, 10, 12, 14, 16, 18, 19, 20, 21, 22, 24, 25, 27, 29, 31, 33, 143] rfl
          refine hK20 _ _ ?_
          refine wp_seq_k (fun K21 hK21 => ?_)
          refine wp_plain [true, false, true, true, true, true, true] rfl rfl ?_
          refine s_loadN hE rfl (hM.get 20 rfl) row23 rfl (by intro X h; cases h) rfl ?_; clear hE a; intro a hE
          refine s_call hE rfl Tryd.call10 (tnew_no1 [9, 0, 0, 0, 0, 0, 0, 0, 0, 0, 0, 0, 0, 0, 0, 0, 0, 0, 0, 0, 0, 0, 0, 0, 0, 0, 0, 0, 0, 0, 0, 0] 13 _ ([] : List (List UInt8)) _ _ (by first | (simp; done) | (simp [*]; done) | (simp; omega)) (rd_nilR 32 _) ok_nil (by omega)) rfl ?_
          rintro e w52 ⟨rfl, hN⟩
          refine ⟨_, rfl, trivial, ?_⟩; clear hE a; intro a hE
          replace hM : Mem _ _ w52 [_, _, _, _, _, _, _, _, _, _, _, _, _, _, _, _, _, _, _, _, _, _] := hM.call0 hN trivial; clear hN
          refine s_move hE rfl rfl ?_; clear hE a; intro a hE
          refine s_extract hE rfl rfl rfl ?_; clear hE a; intro a hE
          refine s_extract hE rfl rfl rfl ?_; clear hE a; intro a hE
          refine s_assign hE rfl rfl ?_; clear hE a; intro a hE
          refine s_assign hE rfl rfl ?_; clear hE a; intro a hE
          refine q_nil ?_
          replace hE : Env a 321 [(0, _), (1, _), (2, _), (3, _), (4, _), (5, _), (6, _), (8, _), (10, _), (12, _), (14, _), (16, _), (18, _), (19, _), (20, _), (21, _), (22, _), (24, _), (25, _), (27, _), (29, _), (31, _), (33, _), (35, _), (143, _)] := hE.sel [0, 1, 2, 3, 4, 5, 6, 8, 10, 12, 14, 16, 18, 19, 20, 21, 22, 24, 25, 27, 29, 31, 33, 35, 143] rfl
          refine hK21 _ _ ?_
          refine wp_seq_k (fun K22 hK22 => ?_)
          refine wp_drawnM hM (by kernel_rfl) (fun _ => False) [(0, true), (1, false), (2, false), (3, true), (4, true), (5, true), (6, true), (7, true)] [(1, [(2, 1), (3, 2), (4, 3), (5, 3), (6, 1), (7, 1)]), (2, [(3, 2), (4, 3), (5, 3), (6, 2), (7, 2)])] (by kernel_rfl) rfl ?_
          intro w53 hM' hww53; clear hM; have hM := hM'; clear hM'
          refine s_loadN hE rfl (hM.get 20 rfl) row23 rfl (by intro X h; cases h; simp) rfl ?_; clear hE a; intro a hE
          refine s_makeSlice (m := 3) (zc := bv zTg) hE rfl rfl hM sl24 ⟨.agg ([bv (List.replicate 32 0)] : List (List Value)).flatten.toArray, by kernel_rfl, rfl⟩ rfl rfl (by first | decide | omega) (by first | decide | omega) (by decide) rfl ?_; clear hE a; intro a v190 w54 hE hM'; clear hM; have hM := hM'; clear hM'
          replace hM := hM.ownEq (m' := (List.replicate 3 zTg).length) (cs' := (List.replicate 3 zTg).flatMap bv) List.length_replicate.symm (rep_flat rfl)
          obtain ⟨cq11, hq11⟩ := own_rd (hM.get 0 rfl)
          refine s_call hE rfl Tryd.call10 (tnew_no2 [9, 0, 0, 0, 0, 0, 0, 0, 0, 0, 0, 0, 0, 0, 0, 0, 0, 0, 0, 0, 0, 0, 0, 0, 0, 0, 0, 0, 0, 0, 0, 0] 1 _ (List.replicate 3 zTg) _ _ (by first | (simp; done) | (simp [*]; done) | (simp; omega)) hq11 (ok_rep zTg_len) (by omega) (by first | decide | simp)) rfl ?_
          rintro e w55 ⟨rfl, hN⟩
          refine ⟨_, rfl, hN.sta0 _, ?_⟩; clear hE a; intro a hE
          replace hM : Mem _ _ w55 [_, _, _, _, _, _, _, _, _, _, _, _, _, _, _, _, _, _, _, _, _, _, _] := hM.call0 hN trivial; clear hN
          refine s_move hE rfl rfl ?_; clear hE a; intro a hE
          refine s_extract hE rfl rfl rfl ?_; clear hE a; intro a hE
          refine s_extract hE rfl rfl rfl ?_; clear hE a; intro a hE
          refine s_assign hE rfl rfl ?_; clear hE a; intro a hE
          refine s_assign hE rfl rfl ?_; clear hE a; intro a hE
          refine q_nil ?_
          replace hE : Env a 321 [(0, _), (1, _), (2, _), (3, _), (4, _), (5, _), (6, _), (8, _), (10, _), (12, _), (14, _), (16, _), (18, _), (19, _), (20, _), (21, _), (22, _), (24, _), (25, _), (27, _), (29, _), (31, _), (33, _), (35, _), (37, _), (143, _)] := hE.sel [0, 1, 2, 3, 4, 5, 6, 8, 10, 12, 14, 16, 18, 19, 20, 21, 22, 24, 25, 27, 29, 31, 33, 35, 37, 143] rfl
          refine hK22 _ _ ?_
          refine wp_seq_k (fun K23 hK23 => ?_)
          refine wp_plain [true] rfl rfl ?_
          refine s_assign hE rfl rfl ?_; clear hE a; intro a hE
          refine q_nil ?_
          refine hK23 _ _ ?_
          refine wp_seq_k (fun K24 hK24 => ?_)
          refine wp_plain [true, false, true] rfl rfl ?_
          refine s_buildS [] hE rfl zero73 rfl fpl73 (by simp [PartsOk, Value.cells, *]) rfl ?_; clear hE a; intro a hE
          replace hE := hE.cast 194 rfl (show _ = Value.agg ([bv (List.replicate 32 (0 : UInt8)), [.int .i64 0], [.slice none 0 0]] : List (List Value)).flatten.toArray from (by first | rfl | simp [setAll]))
          refine s_box (ss := [bv (List.replicate 32 (0 : UInt8)), [.int .i64 0], [.slice none 0 0]]) [32, 1, 1] hE hM rfl rfl (by simp [*]) rfl ?_; clear hE a; intro a b195 w56 hE hM'
          clear hM; have hM := hM'; clear hM'
          refine s_assign hE rfl rfl ?_; clear hE a; intro a hE
          refine q_nil ?_
          replace hE : Env a 321 [(0, _), (1, _), (2, _), (3, _), (4, _), (5, _), (6, _), (8, _), (10, _), (12, _), (14, _), (16, _), (18, _), (19, _), (20, _), (21, _), (22, _), (24, _), (25, _), (27, _), (29, _), (31, _), (33, _), (35, _), (37, _), (38, _), (39, _), (143, _)] := hE.sel [0, 1, 2, 3, 4, 5, 6, 8, 10, 12, 14, 16, 18, 19, 20, 21, 22, 24, 25, 27, 29, 31, 33, 35, 37, 38, 39, 143] rfl
          refine hK24 _ _ ?_
          refine wp_seq_k (fun K25 hK25 => ?_)
          refine wp_plain [true, true, false, true, true, true, true, true] rfl rfl ?_
          refine s_move hE rfl rfl ?_; clear hE a; intro a hE
          refine s_loadN hE rfl (hM.get 21 rfl) row34 rfl (by intro X h; cases h) rfl ?_; clear hE a; intro a hE
          refine s_call hE rfl Tryd.call11 (tset_nil 0 [1, 0, 0, 0, 0, 0, 0, 0, 0, 0, 0, 0, 0, 0, 0, 0, 0, 0, 0, 0, 0, 0, 0, 0, 0, 0, 0, 0, 0, 0, 0, 0] _ (by first | (simp; done) | (simp [*]; done) | (simp; omega))) rfl ?_
          rintro e w57 ⟨v199, rfl, hN⟩
          refine ⟨_, rfl, trivial, ?_⟩; clear hE a; intro a hE
          replace hM : Mem _ _ w57 [_, _, _, _, _, _, _, _, _, _, _, _, _, _, _, _, _, _, _, _, _, _, _, _, _] := hM.call0 hN ⟨rfl, trivial⟩; clear hN
          refine s_move hE rfl rfl ?_; clear hE a; intro a hE
          refine s_extract hE rfl rfl rfl ?_; clear hE a; intro a hE
          refine s_extract hE rfl rfl rfl ?_; clear hE a; intro a hE
          refine s_assign hE rfl rfl ?_; clear hE a; intro a hE
          refine s_assign hE rfl rfl ?_; clear hE a; intro a hE
          refine q_nil ?_
          replace hE : Env a 321 [(0, _), (1, _), (2, _), (3, _), (4, _), (5, _), (6, _), (8, _), (10, _), (12, _), (14, _), (16, _), (18, _), (19, _), (20, _), (21, _), (22, _), (24, _), (25, _), (27, _), (29, _), (31, _), (33, _), (35, _), (37, _), (38, _), (39, _), (41, _), (143, _)] := hE.sel [0, 1, 2, 3, 4, 5, 6, 8, 10, 12, 14, 16, 18, 19, 20, 21, 22, 24, 25, 27, 29, 31, 33, 35, 37, 38, 39, 41, 143] rfl
          refine hK25 _ _ ?_
          refine wp_seq_k (fun K26 hK26 => ?_)
          refine wp_plain [true, false, true, true, true, true, true] rfl rfl ?_
          refine s_move hE rfl rfl ?_; clear hE a; intro a hE
          refine s_call hE rfl Tryd.call14 (tproof_zero b195 (List.replicate 32 (0 : UInt8)) _ 0 _ (hM.get 1 rfl) List.length_replicate) rfl ?_
          rintro e w58 ⟨v204, rfl, hN⟩
          refine ⟨_, rfl, trivial, ?_⟩; clear hE a; intro a hE
          replace hM : Mem _ _ w58 [_, _, _, _, _, _, _, _, _, _, _, _, _, _, _, _, _, _, _, _, _, _, _, _, _, _] := hM.call0 hN ⟨rfl, trivial⟩; clear hN
          refine s_move hE rfl rfl ?_; clear hE a; intro a hE
          refine s_extract hE rfl rfl rfl ?_; clear hE a; intro a hE
          refine s_extract hE rfl rfl rfl ?_; clear hE a; intro a hE
          refine s_assign hE rfl rfl ?_; clear hE a; intro a hE
          refine s_assign hE rfl rfl ?_; clear hE a; intro a hE
          refine q_nil ?_
          replace hE : Env a 321 [(0, _), (1, _), (2, _), (3, _), (4, _), (5, _), (6, _), (8, _), (10, _), (12, _), (14, _), (16, _), (18, _), (19, _), (20, _), (21, _), (22, _), (24, _), (25, _), (27, _), (29, _), (31, _), (33, _), (35, _), (37, _), (38, _), (39, _), (41, _), (43, _), (143, _)] := hE.sel [0, 1, 2, 3, 4, 5, 6, 8, 10, 12, 14, 16, 18, 19, 20, 21, 22, 24, 25, 27, 29, 31, 33, 35, 37, 38, 39, 41, 43, 143] rfl
          refine hK26 _ _ ?_
          refine wp_seq_k (fun K27 hK27 => ?_)
          refine wp_plain [true, false, true, true, true, false, false, true] rfl rfl ?_
          refine s_move hE rfl rfl ?_; clear hE a; intro a hE
          refine s_call hE rfl Tryd.call13 (ttag_zero b195 (List.replicate 32 (0 : UInt8)) _ 1 _ (hM.get 2 rfl) List.length_replicate) rfl ?_
          rintro e w59 ⟨rfl, hN⟩
          refine ⟨_, rfl, trivial, ?_⟩; clear hE a; intro a hE
          replace hM : Mem _ _ w59 [_, _, _, _, _, _, _, _, _, _, _, _, _, _, _, _, _, _, _, _, _, _, _, _, _, _] := hM.call0 hN trivial; clear hN
          refine s_move hE rfl rfl ?_; clear hE a; intro a hE
          refine s_extract hE rfl rfl rfl ?_; clear hE a; intro a hE
          refine s_extract hE rfl rfl rfl ?_; clear hE a; intro a hE
          refine s_alloc [32] hE hM zero34 rfl rfl ?_; clear hE a; intro a b44 w60 hE hM'
          clear hM; have hM := hM'; clear hM'
          refine s_storeSeg 0 hE rfl rfl hM rfl sz34 ((bv_length _).trans List.length_replicate) (bv_one _) rfl ((bv_length _).trans (by first | (simp; done) | (simp [*]; done) | (simp; omega))) rfl (by intro X h; cases h) ?_; intro w61 hM'; clear hM; have hM := hM'; clear hM'
          simp only [List.set_cons_zero, List.set_cons_succ] at hM
          refine s_assign hE rfl rfl ?_; clear hE a; intro a hE
          refine q_nil ?_
          replace hE : Env a 321 [(0, _), (1, _), (2, _), (3, _), (4, _), (5, _), (6, _), (8, _), (10, _), (12, _), (14, _), (16, _), (18, _), (19, _), (20, _), (21, _), (22, _), (24, _), (25, _), (27, _), (29, _), (31, _), (33, _), (35, _), (37, _), (38, _), (39, _), (41, _), (43, _), (45, _), (143, _)] := hE.sel [0, 1, 2, 3, 4, 5, 6, 8, 10, 12, 14, 16, 18, 19, 20, 21, 22, 24, 25, 27, 29, 31, 33, 35, 37, 38, 39, 41, 43, 45, 143] rfl
          refine hK27 _ _ ?_
          refine wp_seq_k (fun K28 hK28 => ?_)
          refine wp_seq_k (fun K29 hK29 => ?_)
          refine wp_plain [true, true, true, true, true, true, true, true, true, true, true, true, true, true, true, true, true, true, true, true, true, true, true, true, true, true, true, true, true, true, true, true, true, true, true, true, true, true, true, true, true, true, true, true, true, true, true, true, true, true, false, true, true, true, true, false, true, true, true] rfl rfl ?_
          refine s_move hE rfl rfl ?_; clear hE a; intro a hE
          refine s_len hE rfl Tryd.underlying35 (own_slice (hM.get 12 rfl)) rfl ?_; clear hE a; intro a hE
          refine s_bin hE rfl rfl bin_neq rfl ?_; clear hE a; intro a hE
          refine s_move hE rfl rfl ?_; clear hE a; intro a hE
          replace hE := hE.cast 215 rfl (show _ = Value.bool false from (congrArg Value.bool (by first | rfl | decide | simp)))
          refine g_yes hE rfl rfl ?_
          refine s_move hE rfl rfl ?_; clear hE a; intro a hE
          refine g_yes hE rfl rfl ?_
          obtain ⟨cx217, hx217⟩ := own_rd (hM.get 12 rfl)
          refine s_indexRd (j := 0) hE rfl hx217 rfl slt35 (by first | rfl | omega) (by decide) rfl ?_; clear hE a; intro a p217 hE hc217 hp217
          have hlj217 : 0 < ([3, 1] : List Nat).length := (by decide)
          have hok217 := ok31 _ (getD_mem (d := 0) hlj217)
          rw [flat_elem (d := 0) (fun x hx => (show (intC _).length = 1 from rfl)) hlj217] at hc217
          refine g_yes hE rfl rfl ?_
          replace hc217 : (cellsAt _ [.int .i64 (((([3, 1] : List Nat).getD 0 0) : Nat) : Int)]).holds _ := hc217
          refine s_loadAt1 hE rfl hc217 one3 (by intro X h; cases h) rfl ?_; clear hE a; intro a hE
          refine g_yes hE rfl rfl ?_
          refine s_bin hE rfl rfl bin_neq rfl ?_; clear hE a; intro a hE
          refine s_pickf hE rfl rfl rfl ?_; clear hE a; intro a hE
          refine s_move hE rfl rfl ?_; clear hE a; intro a hE
          replace hE := hE.cast 221 rfl (show _ = Value.bool false from (congrArg Value.bool (by first | rfl | decide | simp)))
          refine g_yes hE rfl rfl ?_
          refine s_move hE rfl rfl ?_; clear hE a; intro a hE
          refine g_yes hE rfl rfl ?_
          obtain ⟨cx223, hx223⟩ := own_rd (hM.get 12 rfl)
          refine s_indexRd (j := 1) hE rfl hx223 rfl slt35 (by first | rfl | omega) (by decide) rfl ?_; clear hE a; intro a p223 hE hc223 hp223
          have hlj223 : 1 < ([3, 1] : List Nat).length := (by decide)
          have hok223 := ok31 _ (getD_mem (d := 0) hlj223)
          rw [flat_elem (d := 0) (fun x hx => (show (intC _).length = 1 from rfl)) hlj223] at hc223
          refine g_yes hE rfl rfl ?_
          replace hc223 : (cellsAt _ [.int .i64 (((([3, 1] : List Nat).getD 1 0) : Nat) : Int)]).holds _ := hc223
          refine s_loadAt1 hE rfl hc223 one3 (by intro X h; cases h) rfl ?_; clear hE a; intro a hE
          refine g_yes hE rfl rfl ?_
          refine s_bin hE rfl rfl bin_neq rfl ?_; clear hE a; intro a hE
          refine s_pickf hE rfl rfl rfl ?_; clear hE a; intro a hE
          refine s_move hE rfl rfl ?_; clear hE a; intro a hE
          replace hE := hE.cast 227 rfl (show _ = Value.bool false from (congrArg Value.bool (by first | rfl | decide | simp)))
          refine g_yes hE rfl rfl ?_
          refine s_move hE rfl rfl ?_; clear hE a; intro a hE
          refine g_yes hE rfl rfl ?_
          refine s_bin hE rfl rfl bin_neq rfl ?_; clear hE a; intro a hE
          replace hE := hE.cast 229 rfl (show _ = Value.bool false from (congrArg Value.bool (by decide)))
          refine s_pickf hE rfl rfl rfl ?_; clear hE a; intro a hE
          refine s_move hE rfl rfl ?_; clear hE a; intro a hE
          refine g_yes hE rfl rfl ?_
          refine s_move hE rfl rfl ?_; clear hE a; intro a hE
          refine g_yes hE rfl rfl ?_
          refine s_len hE rfl Tryd.underlying35 (own_slice (hM.get 11 rfl)) rfl ?_; clear hE a; intro a hE
          refine g_yes hE rfl rfl ?_
          refine s_bin hE rfl rfl bin_neq rfl ?_; clear hE a; intro a hE
          refine s_pickf hE rfl rfl rfl ?_; clear hE a; intro a hE
          refine s_move hE rfl rfl ?_; clear hE a; intro a hE
          replace hE := hE.cast 236 rfl (show _ = Value.bool false from (congrArg Value.bool (by first | rfl | decide | simp)))
          refine g_yes hE rfl rfl ?_
          refine s_move hE rfl rfl ?_; clear hE a; intro a hE
          refine g_yes hE rfl rfl ?_
          refine s_bin hE rfl rfl bin_neq rfl ?_; clear hE a; intro a hE
          replace hE := hE.cast 238 rfl (show _ = Value.bool false from (congrArg Value.bool (by decide)))
          refine s_pickf hE rfl rfl rfl ?_; clear hE a; intro a hE
          refine s_move hE rfl rfl ?_; clear hE a; intro a hE
          refine g_yes hE rfl rfl ?_
          refine s_move hE rfl rfl ?_; clear hE a; intro a hE
          refine g_yes hE rfl rfl ?_
          refine s_bin hE rfl rfl bin_neq rfl ?_; clear hE a; intro a hE
          replace hE := hE.cast 242 rfl (show _ = Value.bool false from (congrArg Value.bool (by decide)))
          refine s_pickf hE rfl rfl rfl ?_; clear hE a; intro a hE
          refine s_move hE rfl rfl ?_; clear hE a; intro a hE
          refine g_yes hE rfl rfl ?_
          refine s_move hE rfl rfl ?_; clear hE a; intro a hE
          refine g_yes hE rfl rfl ?_
          refine s_len hE rfl Tryd.underlying35 (own_slice (hM.get 8 rfl)) rfl ?_; clear hE a; intro a hE
          refine g_yes hE rfl rfl ?_
          refine s_bin hE rfl rfl bin_neq rfl ?_; clear hE a; intro a hE
          refine s_pickf hE rfl rfl rfl ?_; clear hE a; intro a hE
          refine s_move hE rfl rfl ?_; clear hE a; intro a hE
          replace hE := hE.cast 249 rfl (show _ = Value.bool false from (congrArg Value.bool (by first | rfl | decide | simp)))
          refine g_yes hE rfl rfl ?_
          refine s_move hE rfl rfl ?_; clear hE a; intro a hE
          refine g_yes hE rfl rfl ?_
          obtain ⟨cx251, hx251⟩ := own_rd (hM.get 8 rfl)
          refine s_indexRd (j := 0) hE rfl hx251 rfl slt35 (by first | rfl | omega) (by decide) rfl ?_; clear hE a; intro a p251 hE hc251 hp251
          have hlj251 : 0 < ([3, 1] : List Nat).length := (by decide)
          have hok251 := ok31 _ (getD_mem (d := 0) hlj251)
          rw [flat_elem (d := 0) (fun x hx => (show (intC _).length = 1 from rfl)) hlj251] at hc251
          refine g_yes hE rfl rfl ?_
          replace hc251 : (cellsAt _ [.int .i64 (((([3, 1] : List Nat).getD 0 0) : Nat) : Int)]).holds _ := hc251
          refine s_loadAt1 hE rfl hc251 one3 (by intro X h; cases h) rfl ?_; clear hE a; intro a hE
          refine g_yes hE rfl rfl ?_
          refine s_bin hE rfl rfl bin_neq rfl ?_; clear hE a; intro a hE
          refine s_pickf hE rfl rfl rfl ?_; clear hE a; intro a hE
          refine s_move hE rfl rfl ?_; clear hE a; intro a hE
          replace hE := hE.cast 255 rfl (show _ = Value.bool false from (congrArg Value.bool (by first | rfl | decide | simp)))
          refine g_yes hE rfl rfl ?_
          refine s_move hE rfl rfl ?_; clear hE a; intro a hE
          refine g_yes hE rfl rfl ?_
          obtain ⟨cx257, hx257⟩ := own_rd (hM.get 8 rfl)
          refine s_indexRd (j := 1) hE rfl hx257 rfl slt35 (by first | rfl | omega) (by decide) rfl ?_; clear hE a; intro a p257 hE hc257 hp257
          have hlj257 : 1 < ([3, 1] : List Nat).length := (by decide)
          have hok257 := ok31 _ (getD_mem (d := 0) hlj257)
          rw [flat_elem (d := 0) (fun x hx => (show (intC _).length = 1 from rfl)) hlj257] at hc257
          refine g_yes hE rfl rfl ?_
          replace hc257 : (cellsAt _ [.int .i64 (((([3, 1] : List Nat).getD 1 0) : Nat) : Int)]).holds _ := hc257
          refine s_loadAt1 hE rfl hc257 one3 (by intro X h; cases h) rfl ?_; clear hE a; intro a hE
          refine g_yes hE rfl rfl ?_
          refine s_bin hE rfl rfl bin_neq rfl ?_; clear hE a; intro a hE
          refine s_pickf hE rfl rfl rfl ?_; clear hE a; intro a hE
          refine s_move hE rfl rfl ?_; clear hE a; intro a hE
          replace hE := hE.cast 261 rfl (show _ = Value.bool false from (congrArg Value.bool (by first | rfl | decide | simp)))
          refine g_yes hE rfl rfl ?_
          refine s_call hE rfl Tryd.call15 (tpathI_c 2 4 _) rfl ?_
          rintro e w62 ⟨v262, rfl, hN⟩
          refine ⟨_, rfl, trivial, ?_⟩; clear hE a; intro a hE
          replace hM : Mem _ _ w62 [_, _, _, _, _, _, _, _, _, _, _, _, _, _, _, _, _, _, _, _, _, _, _, _, _, _, _, _] := hM.call0 hN ⟨rfl, trivial⟩; clear hN
          replace hM := Mem.ownRowsEq (f := intC) (ls := pathZ 2 4) (ms := ([] : List Nat)) hM (pathZ_out2 (h := 2) (by decide))
          refine g_yes hE rfl rfl ?_
          refine s_len hE rfl Tryd.underlying35 (own_slice (hM.get 0 rfl)) rfl ?_; clear hE a; intro a hE
          refine g_yes hE rfl rfl ?_
          refine s_bin hE rfl rfl bin_neq rfl ?_; clear hE a; intro a hE
          refine s_pickf hE rfl rfl rfl ?_; clear hE a; intro a hE
          refine s_move hE rfl rfl ?_; clear hE a; intro a hE
          replace hE := hE.cast 266 rfl (show _ = Value.bool false from (congrArg Value.bool (by first | rfl | decide | simp)))
          refine g_yes hE rfl rfl ?_
          refine s_call hE rfl Tryd.call15 (tpathI_c 13 0 _) rfl ?_
          rintro e w63 ⟨v267, rfl, hN⟩
          refine ⟨_, rfl, trivial, ?_⟩; clear hE a; intro a hE
          replace hM : Mem _ _ w63 [_, _, _, _, _, _, _, _, _, _, _, _, _, _, _, _, _, _, _, _, _, _, _, _, _, _, _, _, _] := hM.call0 hN ⟨rfl, trivial⟩; clear hN
          replace hM := Mem.ownRowsEq (f := intC) (ls := pathZ 13 0) (ms := ([] : List Nat)) hM (pathZ_out1 (by decide))
          refine g_yes hE rfl rfl ?_
          refine s_len hE rfl Tryd.underlying35 (own_slice (hM.get 0 rfl)) rfl ?_; clear hE a; intro a hE
          refine g_yes hE rfl rfl ?_
          refine s_bin hE rfl rfl bin_neq rfl ?_; clear hE a; intro a hE
          refine s_pickf hE rfl rfl rfl ?_; clear hE a; intro a hE
          refine q_nil ?_
          replace hE : Env a 321 [(0, _), (1, _), (2, _), (3, _), (4, _), (5, _), (6, _), (8, _), (10, _), (12, _), (14, _), (16, _), (18, _), (27, _), (29, _), (31, _), (33, _), (35, _), (37, _), (38, _), (39, _), (41, _), (43, _), (45, _), (143, _), (270, _)] := hE.sel [0, 1, 2, 3, 4, 5, 6, 8, 10, 12, 14, 16, 18, 27, 29, 31, 33, 35, 37, 38, 39, 41, 43, 45, 143, 270] rfl
          refine hK29 _ _ ?_
          replace hE := hE.cast 270 rfl (show _ = Value.bool false from (congrArg Value.bool (by first | rfl | decide | simp)))
          refine wp_cond_false (hE.eval rfl) ?_
          refine wp_skip ?_
          refine hK28 _ _ ?_
          refine wp_seq_k (fun K30 hK30 => ?_)
          refine wp_plain [true, true, true, true, true, true, true, true, true, true, true, true, true, true, true, true, true, true, true, true, true, true, true, true, true, true, true, true, true, true, true, true, true, true, true, true, false, true, true, true, true, true, true, true, false, true, true, true, false, true, true] rfl rfl ?_
          refine s_move hE rfl rfl ?_; clear hE a; intro a hE
          refine s_bin hE rfl rfl bin_eql rfl ?_; clear hE a; intro a hE
          replace hE := hE.cast 272 rfl (show _ = Value.bool true from (congrArg Value.bool (by decide)))
          refine s_move hE rfl rfl ?_; clear hE a; intro a hE
          refine g_yes hE rfl rfl ?_
          refine s_move hE rfl rfl ?_; clear hE a; intro a hE
          refine g_yes hE rfl rfl ?_
          refine s_bin hE rfl rfl bin_eql rfl ?_; clear hE a; intro a hE
          replace hE := hE.cast 275 rfl (show _ = Value.bool true from (congrArg Value.bool (by decide)))
          refine s_pickt hE rfl rfl rfl ?_; clear hE a; intro a hE
          refine s_move hE rfl rfl ?_; clear hE a; intro a hE
          refine g_yes hE rfl rfl ?_
          refine s_move hE rfl rfl ?_; clear hE a; intro a hE
          refine g_yes hE rfl rfl ?_
          refine s_bin hE rfl rfl bin_eql rfl ?_; clear hE a; intro a hE
          replace hE := hE.cast 279 rfl (show _ = Value.bool true from (congrArg Value.bool (by decide)))
          refine s_pickt hE rfl rfl rfl ?_; clear hE a; intro a hE
          refine s_move hE rfl rfl ?_; clear hE a; intro a hE
          refine g_yes hE rfl rfl ?_
          refine s_move hE rfl rfl ?_; clear hE a; intro a hE
          refine g_yes hE rfl rfl ?_
          refine s_bin hE rfl rfl bin_eql rfl ?_; clear hE a; intro a hE
          replace hE := hE.cast 283 rfl (show _ = Value.bool true from (congrArg Value.bool (by decide)))
          refine s_pickt hE rfl rfl rfl ?_; clear hE a; intro a hE
          refine s_move hE rfl rfl ?_; clear hE a; intro a hE
          refine g_yes hE rfl rfl ?_
          refine s_move hE rfl rfl ?_; clear hE a; intro a hE
          refine g_yes hE rfl rfl ?_
          refine s_bin hE rfl rfl bin_eql rfl ?_; clear hE a; intro a hE
          replace hE := hE.cast 287 rfl (show _ = Value.bool true from (congrArg Value.bool (by decide)))
          refine s_pickt hE rfl rfl rfl ?_; clear hE a; intro a hE
          refine s_move hE rfl rfl ?_; clear hE a; intro a hE
          refine g_yes hE rfl rfl ?_
          refine s_move hE rfl rfl ?_; clear hE a; intro a hE
          refine g_yes hE rfl rfl ?_
          refine s_bin hE rfl rfl bin_eql rfl ?_; clear hE a; intro a hE
          replace hE := hE.cast 291 rfl (show _ = Value.bool true from (congrArg Value.bool (by decide)))
          refine s_pickt hE rfl rfl rfl ?_; clear hE a; intro a hE
          refine s_move hE rfl rfl ?_; clear hE a; intro a hE
          refine g_yes hE rfl rfl ?_
          refine s_move hE rfl rfl ?_; clear hE a; intro a hE
          refine g_yes hE rfl rfl ?_
          refine s_bin hE rfl rfl bin_eql rfl ?_; clear hE a; intro a hE
          replace hE := hE.cast 295 rfl (show _ = Value.bool true from (congrArg Value.bool (by decide)))
          refine s_pickt hE rfl rfl rfl ?_; clear hE a; intro a hE
          refine s_move hE rfl rfl ?_; clear hE a; intro a hE
          refine g_yes hE rfl rfl ?_
          refine s_move hE rfl rfl ?_; clear hE a; intro a hE
          refine g_yes hE rfl rfl ?_
          refine s_bin hE rfl rfl bin_eql rfl ?_; clear hE a; intro a hE
          replace hE := hE.cast 299 rfl (show _ = Value.bool true from (congrArg Value.bool (by decide)))
          refine s_pickt hE rfl rfl rfl ?_; clear hE a; intro a hE
          refine s_move hE rfl rfl ?_; clear hE a; intro a hE
          refine g_yes hE rfl rfl ?_
          refine s_move hE rfl rfl ?_; clear hE a; intro a hE
          refine g_yes hE rfl rfl ?_
          refine s_bin hE rfl rfl bin_eql rfl ?_; clear hE a; intro a hE
          replace hE := hE.cast 303 rfl (show _ = Value.bool true from (congrArg Value.bool (by decide)))
          refine s_pickt hE rfl rfl rfl ?_; clear hE a; intro a hE
          refine s_move hE rfl rfl ?_; clear hE a; intro a hE
          refine g_yes hE rfl rfl ?_
          refine s_move hE rfl rfl ?_; clear hE a; intro a hE
          refine g_yes hE rfl rfl ?_
          refine s_call hE rfl Tryd.call12 (ttop_nil _) rfl ?_
          rintro e w64 ⟨rfl, hN⟩
          refine ⟨_, rfl, trivial, ?_⟩; clear hE a; intro a hE
          replace hM : Mem _ _ w64 [_, _, _, _, _, _, _, _, _, _, _, _, _, _, _, _, _, _, _, _, _, _, _, _, _, _, _, _, _] := hM.call0 hN trivial; clear hN
          refine g_yes hE rfl rfl ?_
          refine s_build (r := .agg (bv (List.replicate 32 (0 : UInt8))).toArray) _ hE rfl (fun w => by kernel_rfl) rfl ?_; clear hE a; intro a hE
          refine g_yes hE rfl rfl ?_
          refine s_bin hE rfl rfl (eqa34 List.length_replicate (by first | (simp; done) | (simp [*]; done) | (simp; omega))).1 rfl ?_; clear hE a; intro a hE
          refine s_pickt hE rfl rfl rfl ?_; clear hE a; intro a hE
          refine s_move hE rfl rfl ?_; clear hE a; intro a hE
          replace hE := hE.cast 311 rfl (show _ = Value.bool true from (congrArg Value.bool (by first | rfl | simp)))
          refine g_yes hE rfl rfl ?_
          refine s_loadN hE rfl (hM.get 27 rfl) row23 rfl (by intro X h; cases h) rfl ?_; clear hE a; intro a hE
          refine g_yes hE rfl rfl ?_
          refine s_loadN hE rfl (hM.get 26 rfl) row34 rfl (by intro X h; cases h) rfl ?_; clear hE a; intro a hE
          refine g_yes hE rfl rfl ?_
          refine s_loadN hE rfl (hM.get 26 rfl) row34 rfl (by intro X h; cases h) rfl ?_; clear hE a; intro a hE
          refine g_yes hE rfl rfl ?_
          refine s_call hE rfl Tryd.call16 (tcheckI_c [9, 0, 0, 0, 0, 0, 0, 0, 0, 0, 0, 0, 0, 0, 0, 0, 0, 0, 0, 0, 0, 0, 0, 0, 0, 0, 0, 0, 0, 0, 0, 0] 0 [1, 0, 0, 0, 0, 0, 0, 0, 0, 0, 0, 0, 0, 0, 0, 0, 0, 0, 0, 0, 0, 0, 0, 0, 0, 0, 0, 0, 0, 0, 0, 0] _ ([] : List (List UInt8)) _ [1, 0, 0, 0, 0, 0, 0, 0, 0, 0, 0, 0, 0, 0, 0, 0, 0, 0, 0, 0, 0, 0, 0, 0, 0, 0, 0, 0, 0, 0, 0, 0] _ (hM.get 28 rfl) (by first | (simp; done) | (simp [*]; done) | (simp; omega)) (by first | (simp; done) | (simp [*]; done) | (simp; omega)) (rd_nilR 64 _) ok_nil (by first | (simp; done) | (simp [*]; done) | (simp; omega))) rfl ?_
          rintro e w65 ⟨rfl, hN⟩
          refine ⟨_, rfl, trivial, ?_⟩; clear hE a; intro a hE
          replace hM : Mem _ _ w65 [_, _, _, _, _, _, _, _, _, _, _, _, _, _, _, _, _, _, _, _, _, _, _, _, _, _, _, _, _] := hM.call0 hN trivial; clear hN
          refine g_yes hE rfl rfl ?_
          refine s_not hE rfl rfl ?_; clear hE a; intro a hE
          refine s_pickt hE rfl rfl rfl ?_; clear hE a; intro a hE
          refine s_move hE rfl rfl ?_; clear hE a; intro a hE
          replace hE := hE.cast 318 rfl (show _ = Value.bool true from (congrArg Value.bool (by rw [chkZ_out1 (by decide)]; rfl)))
          refine g_yes hE rfl rfl ?_
          refine s_call hE rfl Tryd.call9 (works_c  _ (hM.get 28 rfl)) rfl ?_
          rintro e w66 ⟨rfl, hN⟩
          refine ⟨_, rfl, trivial, ?_⟩; clear hE a; intro a hE
          replace hM : Mem _ _ w66 [_, _, _, _, _, _, _, _, _, _, _, _, _, _, _, _, _, _, _, _, _, _, _, _, _, _, _, _, _] := hM.call0 hN trivial; clear hN
          refine s_pickt hE rfl rfl rfl ?_; clear hE a; intro a hE
          refine s_assign hE rfl rfl ?_; clear hE a; intro a hE
          refine q_nil ?_
          replace hE : Env a 321 [(0, _), (1, _), (2, _), (3, _), (4, _), (5, _), (6, _), (8, _), (10, _), (12, _), (14, _), (16, _), (18, _), (38, _), (39, _), (143, _), (270, _)] := hE.sel [0, 1, 2, 3, 4, 5, 6, 8, 10, 12, 14, 16, 18, 38, 39, 143, 270] rfl
          refine hK30 _ _ ?_
          refine wp_ret ?_
          refine f_ret1 hE rfl rfl ?_
          exact ⟨(by first | rfl | (simp; done)), hM.pick [] rfl⟩
        trivial
      trivial
    refine o_or rfl ?_ ?_
    · refine s_alloc [32] hE hM zero34 rfl rfl ?_; clear hE a; intro a b18 w30 hE hM'
      clear hM; have hM := hM'; clear hM'
      refine q_nil (q_nx ?_)
      refine o_cut (fun _ => True) ?_
      refine o_re ?_
      refine o_fl rfl ?_
      refine q_nil (q_nx ?_)
      refine o_fl rfl ?_
      refine q_nil (q_nx ?_)
      refine o_or rfl ?_ ?_
      · refine s_call hE rfl Tryd.call17 (tnode_c [9, 0, 0, 0, 0, 0, 0, 0, 0, 0, 0, 0, 0, 0, 0, 0, 0, 0, 0, 0, 0, 0, 0, 0, 0, 0, 0, 0, 0, 0, 0, 0] ((1 : Nat) : Int) ((nd [9, 0, 0, 0, 0, 0, 0, 0, 0, 0, 0, 0, 0, 0, 0, 0, 0, 0, 0, 0, 0, 0, 0, 0, 0, 0, 0, 0, 0, 0, 0, 0] 2 ([1, 0, 0, 0, 0, 0, 0, 0, 0, 0, 0, 0, 0, 0, 0, 0, 0, 0, 0, 0, 0, 0, 0, 0, 0, 0, 0, 0, 0, 0, 0, 0] ++ [2, 0, 0, 0, 0, 0, 0, 0, 0, 0, 0, 0, 0, 0, 0, 0, 0, 0, 0, 0, 0, 0, 0, 0, 0, 0, 0, 0, 0, 0, 0, 0])) ++ (nd [9, 0, 0, 0, 0, 0, 0, 0, 0, 0, 0, 0, 0, 0, 0, 0, 0, 0, 0, 0, 0, 0, 0, 0, 0, 0, 0, 0, 0, 0, 0, 0] 3 ([3, 0, 0, 0, 0, 0, 0, 0, 0, 0, 0, 0, 0, 0, 0, 0, 0, 0, 0, 0, 0, 0, 0, 0, 0, 0, 0, 0, 0, 0, 0, 0] ++ List.replicate 32 (0 : UInt8)))) _ (hM.get 14 rfl) (by first | (simp; done) | (simp [*]; done) | (simp; omega)) (List.length_append.trans (congr (congrArg HAdd.hAdd (nd_len ..)) (nd_len ..)))) rfl ?_
        rintro e w31 ⟨rfl, hN⟩
        refine ⟨_, rfl, hN.sta0 _, ?_⟩; clear hE a; intro a hE
        replace hM : Mem _ _ w31 [_, _, _, _, _, _, _, _, _, _, _, _, _, _, _] := hM.call0 hN trivial; clear hN
        replace hE := hE.cast 89 rfl (show _ = Value.agg (bv (nd [9, 0, 0, 0, 0, 0, 0, 0, 0, 0, 0, 0, 0, 0, 0, 0, 0, 0, 0, 0, 0, 0, 0, 0, 0, 0, 0, 0, 0, 0, 0, 0] 1 ((nd [9, 0, 0, 0, 0, 0, 0, 0, 0, 0, 0, 0, 0, 0, 0, 0, 0, 0, 0, 0, 0, 0, 0, 0, 0, 0, 0, 0, 0, 0, 0, 0] 2 ([1, 0, 0, 0, 0, 0, 0, 0, 0, 0, 0, 0, 0, 0, 0, 0, 0, 0, 0, 0, 0, 0, 0, 0, 0, 0, 0, 0, 0, 0, 0, 0] ++ [2, 0, 0, 0, 0, 0, 0, 0, 0, 0, 0, 0, 0, 0, 0, 0, 0, 0, 0, 0, 0, 0, 0, 0, 0, 0, 0, 0, 0, 0, 0, 0])) ++ (nd [9, 0, 0, 0, 0, 0, 0, 0, 0, 0, 0, 0, 0, 0, 0, 0, 0, 0, 0, 0, 0, 0, 0, 0, 0, 0, 0, 0, 0, 0, 0, 0] 3 ([3, 0, 0, 0, 0, 0, 0, 0, 0, 0, 0, 0, 0, 0, 0, 0, 0, 0, 0, 0, 0, 0, 0, 0, 0, 0, 0, 0, 0, 0, 0, 0] ++ List.replicate 32 (0 : UInt8)))))).toArray from rfl)
        refine q_nil (q_nx ?_)
        refine o_re ?_
        refine o_fl rfl ?_
        refine q_nil (q_nx ?_)
        refine o_fl rfl ?_
        refine q_nil (q_nx ?_)
        refine o_weak (fun b => b = b18) (fun _ _ => trivial) ?_
        refine o_or rfl ?_ ?_
        · refine s_storeSeg 0 hE rfl rfl hM rfl sz34 ((bv_length _).trans (nd_len ..)) (bv_one _) rfl ((bv_length _).trans (by first | (simp; done) | (simp [*]; done) | (simp; omega))) rfl (by intro X h; cases h; rfl) ?_; intro w32 hM'; clear hM; have hM := hM'; clear hM'
          simp only [List.set_cons_zero, List.set_cons_succ] at hM
          refine q_nil (q_nx ?_)
          refine o_cut (fun _ => True) ?_
          refine o_re ?_
          refine o_weak (fun _ => False) (fun _ _ => trivial) ?_
          refine o_leaf rfl rfl ?_
          refine q_nil (q_ph (q_nil ?_))
          replace hE : Env a 321 [(0, _), (1, _), (2, _), (3, _), (4, _), (5, _), (6, _), (7, _), (8, _), (9, _), (10, _), (11, _), (12, _), (13, _), (14, _), (15, _), (16, _), (17, _), (18, _)] := hE.sel [0, 1, 2, 3, 4, 5, 6, 7, 8, 9, 10, 11, 12, 13, 14, 15, 16, 17, 18] rfl
          refine hK10 _ _ ?_
          refine wp_seq_k (fun K11 hK11 => ?_)
          refine wp_seq_k (fun K12 hK12 => ?_)
          refine wp_drawnM hM (by kernel_rfl) (fun _ => False) [(0, true), (1, true), (2, true), (3, true), (4, true), (5, true), (6, true), (7, true), (8, true), (9, true), (10, true), (11, true), (12, true), (13, true), (14, true), (15, true), (16, true), (17, true), (18, true), (19, true), (20, true), (21, true), (22, true), (23, true), (24, true), (25, false), (26, false), (27, true), (28, true), (29, true), (30, true), (31, true), (32, true), (33, true), (34, true), (35, true), (36, true), (37, false), (38, true), (39, true), (40, true), (41, true), (42, true), (43, true), (44, true), (45, true), (46, true), (47, true), (48, true), (49, true), (51, true), (50, false), (52, true), (53, true)] [(25, [(26, 25), (27, 26), (28, 27), (29, 26), (30, 29), (31, 29), (32, 29), (33, 32), (34, 33), (35, 33), (36, 33), (37, 33), (38, 33), (39, 33), (40, 37), (41, 40), (42, 40), (43, 40), (44, 40), (45, 44), (46, 44), (47, 44), (48, 44), (49, 48), (51, 48), (50, 48), (52, 48), (53, 48)]), (26, [(27, 26), (28, 27), (29, 26), (30, 29), (31, 29), (32, 29), (33, 32), (34, 33), (35, 33), (36, 33), (37, 33), (38, 33), (39, 33), (40, 37), (41, 40), (42, 40), (43, 40), (44, 40), (45, 44), (46, 44), (47, 44), (48, 44), (49, 48), (51, 48), (50, 48), (52, 48), (53, 48)]), (37, [(38, 37), (39, 38), (40, 37), (41, 40), (42, 40), (43, 40), (44, 40), (45, 44), (46, 44), (47, 44), (48, 44), (49, 48), (51, 48), (50, 48), (52, 48), (53, 48)]), (50, [(52, 50), (53, 52)])] (by kernel_rfl) rfl ?_
          intro w33 hM' hww33; clear hM; have hM := hM'; clear hM'
          refine s_move hE rfl rfl ?_; clear hE a; intro a hE
          refine s_bin hE rfl rfl bin_neq rfl ?_; clear hE a; intro a hE
          replace hE := hE.cast 91 rfl (show _ = Value.bool false from (congrArg Value.bool (by decide)))
          refine s_move hE rfl rfl ?_; clear hE a; intro a hE
          refine g_yes hE rfl rfl ?_
          refine s_loadN hE rfl (hM.get 5 rfl) row34 rfl (by intro X h; cases h; simp) rfl ?_; clear hE a; intro a hE
          refine g_yes hE rfl rfl ?_
          refine s_loadN hE rfl (hM.get 12 rfl) row34 rfl (by intro X h; cases h; simp) rfl ?_; clear hE a; intro a hE
          refine g_yes hE rfl rfl ?_
          refine s_bin hE rfl rfl (eqa34 rfl (by first | (simp; done) | (simp [*]; done) | (simp; omega))).2 rfl ?_; clear hE a; intro a hE
          refine s_pickf hE rfl rfl rfl ?_; clear hE a; intro a hE
          refine s_move hE rfl rfl ?_; clear hE a; intro a hE
          replace hE := hE.cast 97 rfl (show _ = Value.bool false from (congrArg Value.bool (by first | rfl | simp)))
          refine g_yes hE rfl rfl ?_
          refine s_move hE rfl rfl ?_; clear hE a; intro a hE
          refine g_yes hE rfl rfl ?_
          refine s_bin hE rfl rfl bin_neq rfl ?_; clear hE a; intro a hE
          replace hE := hE.cast 99 rfl (show _ = Value.bool false from (congrArg Value.bool (by decide)))
          refine s_pickf hE rfl rfl rfl ?_; clear hE a; intro a hE
          refine s_move hE rfl rfl ?_; clear hE a; intro a hE
          refine g_yes hE rfl rfl ?_
          refine s_loadN hE rfl (hM.get 4 rfl) row34 rfl (by intro X h; cases h; simp) rfl ?_; clear hE a; intro a hE
          refine g_yes hE rfl rfl ?_
          refine s_build (r := .agg (bv (List.replicate 32 (0 : UInt8))).toArray) _ hE rfl (fun w => by kernel_rfl) rfl ?_; clear hE a; intro a hE
          refine g_yes hE rfl rfl ?_
          refine s_bin hE rfl rfl (eqa34 List.length_replicate (by first | (simp; done) | (simp [*]; done) | (simp; omega))).2 rfl ?_; clear hE a; intro a hE
          refine s_pickf hE rfl rfl rfl ?_; clear hE a; intro a hE
          refine s_move hE rfl rfl ?_; clear hE a; intro a hE
          replace hE := hE.cast 106 rfl (show _ = Value.bool false from (congrArg Value.bool (by first | rfl | simp)))
          refine g_yes hE rfl rfl ?_
          refine s_move hE rfl rfl ?_; clear hE a; intro a hE
          refine g_yes hE rfl rfl ?_
          refine s_bin hE rfl rfl bin_neq rfl ?_; clear hE a; intro a hE
          replace hE := hE.cast 108 rfl (show _ = Value.bool false from (congrArg Value.bool (by decide)))
          refine s_pickf hE rfl rfl rfl ?_; clear hE a; intro a hE
          refine s_move hE rfl rfl ?_; clear hE a; intro a hE
          refine g_yes hE rfl rfl ?_
          refine s_loadN hE rfl (hM.get 3 rfl) row34 rfl (by intro X h; cases h; simp) rfl ?_; clear hE a; intro a hE
          refine g_yes hE rfl rfl ?_
          refine s_loadN hE rfl (hM.get 13 rfl) row23 rfl (by intro X h; cases h; simp) rfl ?_; clear hE a; intro a hE
          refine g_yes hE rfl rfl ?_
          refine s_loadN hE rfl (hM.get 12 rfl) row34 rfl (by intro X h; cases h; simp) rfl ?_; clear hE a; intro a hE
          refine g_yes hE rfl rfl ?_
          refine s_loadN hE rfl (hM.get 11 rfl) row34 rfl (by intro X h; cases h; simp) rfl ?_; clear hE a; intro a hE
          refine g_yes hE rfl rfl ?_
          have hj115_0 : [1, 0, 0, 0, 0, 0, 0, 0, 0, 0, 0, 0, 0, 0, 0, 0, 0, 0, 0, 0, 0, 0, 0, 0, 0, 0, 0, 0, 0, 0, 0, 0].length = 32 := (by first | rfl | (simp; done) | (simp [*]; done) | (simp; omega))
          have hj115_1 : [2, 0, 0, 0, 0, 0, 0, 0, 0, 0, 0, 0, 0, 0, 0, 0, 0, 0, 0, 0, 0, 0, 0, 0, 0, 0, 0, 0, 0, 0, 0, 0].length = 32 := (by first | rfl | (simp; done) | (simp [*]; done) | (simp; omega))
          refine s_call hE rfl Tryd.call28 (bjoin_c [1, 0, 0, 0, 0, 0, 0, 0, 0, 0, 0, 0, 0, 0, 0, 0, 0, 0, 0, 0, 0, 0, 0, 0, 0, 0, 0, 0, 0, 0, 0, 0] [2, 0, 0, 0, 0, 0, 0, 0, 0, 0, 0, 0, 0, 0, 0, 0, 0, 0, 0, 0, 0, 0, 0, 0, 0, 0, 0, 0, 0, 0, 0, 0] _ hj115_0 hj115_1) rfl ?_
          rintro e w34 ⟨rfl, hN⟩
          refine ⟨_, rfl, hN.sta0 _, ?_⟩; clear hE a; intro a hE
          replace hM : Mem _ _ w34 [_, _, _, _, _, _, _, _, _, _, _, _, _, _, _] := hM.call0 hN trivial; clear hN
          refine g_yes hE rfl rfl ?_
          refine s_call hE rfl Tryd.call17 (tnode_c [9, 0, 0, 0, 0, 0, 0, 0, 0, 0, 0, 0, 0, 0, 0, 0, 0, 0, 0, 0, 0, 0, 0, 0, 0, 0, 0, 0, 0, 0, 0, 0] ((2 : Nat) : Int) ([1, 0, 0, 0, 0, 0, 0, 0, 0, 0, 0, 0, 0, 0, 0, 0, 0, 0, 0, 0, 0, 0, 0, 0, 0, 0, 0, 0, 0, 0, 0, 0] ++ [2, 0, 0, 0, 0, 0, 0, 0, 0, 0, 0, 0, 0, 0, 0, 0, 0, 0, 0, 0, 0, 0, 0, 0, 0, 0, 0, 0, 0, 0, 0, 0]) _ (hM.get 14 rfl) (by first | (simp; done) | (simp [*]; done) | (simp; omega)) (List.length_append.trans (congr (congrArg HAdd.hAdd hj115_0) hj115_1))) rfl ?_
          rintro e w35 ⟨rfl, hN⟩
          refine ⟨_, rfl, hN.sta0 _, ?_⟩; clear hE a; intro a hE
          replace hM : Mem _ _ w35 [_, _, _, _, _, _, _, _, _, _, _, _, _, _, _] := hM.call0 hN trivial; clear hN
          replace hE := hE.cast 116 rfl (show _ = Value.agg (bv (nd [9, 0, 0, 0, 0, 0, 0, 0, 0, 0, 0, 0, 0, 0, 0, 0, 0, 0, 0, 0, 0, 0, 0, 0, 0, 0, 0, 0, 0, 0, 0, 0] 2 ([1, 0, 0, 0, 0, 0, 0, 0, 0, 0, 0, 0, 0, 0, 0, 0, 0, 0, 0, 0, 0, 0, 0, 0, 0, 0, 0, 0, 0, 0, 0, 0] ++ [2, 0, 0, 0, 0, 0, 0, 0, 0, 0, 0, 0, 0, 0, 0, 0, 0, 0, 0, 0, 0, 0, 0, 0, 0, 0, 0, 0, 0, 0, 0, 0]))).toArray from rfl)
          refine g_yes hE rfl rfl ?_
          refine s_bin hE rfl rfl (eqa34 (nd_len ..) (nd_len ..)).2 rfl ?_; clear hE a; intro a hE
          refine s_pickf hE rfl rfl rfl ?_; clear hE a; intro a hE
          refine s_move hE rfl rfl ?_; clear hE a; intro a hE
          replace hE := hE.cast 119 rfl (show _ = Value.bool false from (congrArg Value.bool (by first | rfl | simp)))
          refine g_yes hE rfl rfl ?_
          refine s_move hE rfl rfl ?_; clear hE a; intro a hE
          refine g_yes hE rfl rfl ?_
          refine s_bin hE rfl rfl bin_neq rfl ?_; clear hE a; intro a hE
          replace hE := hE.cast 121 rfl (show _ = Value.bool false from (congrArg Value.bool (by decide)))
          refine s_pickf hE rfl rfl rfl ?_; clear hE a; intro a hE
          refine s_move hE rfl rfl ?_; clear hE a; intro a hE
          refine g_yes hE rfl rfl ?_
          refine s_loadN hE rfl (hM.get 2 rfl) row52 rfl (by intro X h; cases h; simp) rfl ?_; clear hE a; intro a hE
          refine g_yes hE rfl rfl ?_
          refine s_loadN hE rfl (hM.get 10 rfl) row34 rfl (by intro X h; cases h; simp) rfl ?_; clear hE a; intro a hE
          refine g_yes hE rfl rfl ?_
          refine s_build (r := .agg (bv (List.replicate 32 (0 : UInt8))).toArray) _ hE rfl (fun w => by kernel_rfl) rfl ?_; clear hE a; intro a hE
          refine g_yes hE rfl rfl ?_
          have hj127_0 : [3, 0, 0, 0, 0, 0, 0, 0, 0, 0, 0, 0, 0, 0, 0, 0, 0, 0, 0, 0, 0, 0, 0, 0, 0, 0, 0, 0, 0, 0, 0, 0].length = 32 := (by first | rfl | (simp; done) | (simp [*]; done) | (simp; omega))
          have hj127_1 : (List.replicate 32 (0 : UInt8)).length = 32 := (by first | rfl | (simp; done) | (simp [*]; done) | (simp; omega))
          refine s_call hE rfl Tryd.call28 (bjoin_c [3, 0, 0, 0, 0, 0, 0, 0, 0, 0, 0, 0, 0, 0, 0, 0, 0, 0, 0, 0, 0, 0, 0, 0, 0, 0, 0, 0, 0, 0, 0, 0] (List.replicate 32 (0 : UInt8)) _ hj127_0 hj127_1) rfl ?_
          rintro e w36 ⟨rfl, hN⟩
          refine ⟨_, rfl, hN.sta0 _, ?_⟩; clear hE a; intro a hE
          replace hM : Mem _ _ w36 [_, _, _, _, _, _, _, _, _, _, _, _, _, _, _] := hM.call0 hN trivial; clear hN
          refine g_yes hE rfl rfl ?_
          refine s_bin hE rfl rfl (eqa52 rfl (List.length_append.trans (congr (congrArg HAdd.hAdd hj127_0) hj127_1))).2 rfl ?_; clear hE a; intro a hE
          refine s_pickf hE rfl rfl rfl ?_; clear hE a; intro a hE
          refine s_move hE rfl rfl ?_; clear hE a; intro a hE
          replace hE := hE.cast 130 rfl (show _ = Value.bool false from (congrArg Value.bool (by first | rfl | simp)))
          refine g_yes hE rfl rfl ?_
          refine s_move hE rfl rfl ?_; clear hE a; intro a hE
          refine g_yes hE rfl rfl ?_
          refine s_bin hE rfl rfl bin_neq rfl ?_; clear hE a; intro a hE
          replace hE := hE.cast 132 rfl (show _ = Value.bool false from (congrArg Value.bool (by decide)))
          refine s_pickf hE rfl rfl rfl ?_; clear hE a; intro a hE
          refine s_move hE rfl rfl ?_; clear hE a; intro a hE
          refine g_yes hE rfl rfl ?_
          refine s_move hE rfl rfl ?_; clear hE a; intro a hE
          refine g_yes hE rfl rfl ?_
          refine s_bin hE rfl rfl bin_neq rfl ?_; clear hE a; intro a hE
          replace hE := hE.cast 136 rfl (show _ = Value.bool false from (congrArg Value.bool (by decide)))
          refine s_pickf hE rfl rfl rfl ?_; clear hE a; intro a hE
          refine s_move hE rfl rfl ?_; clear hE a; intro a hE
          refine g_yes hE rfl rfl ?_
          refine s_move hE rfl rfl ?_; clear hE a; intro a hE
          refine g_yes hE rfl rfl ?_
          refine s_loadN hE rfl (hM.get 0 rfl) row34 rfl (by intro X h; cases h; simp) rfl ?_; clear hE a; intro a hE
          refine g_yes hE rfl rfl ?_
          obtain ⟨cs12, hs12⟩ := own_rd (hM.get 7 rfl)
          refine s_call hE rfl Tryd.call12 (ttop_c b57 2 [9, 0, 0, 0, 0, 0, 0, 0, 0, 0, 0, 0, 0, 0, 0, 0, 0, 0, 0, 0, 0, 0, 0, 0, 0, 0, 0, 0, 0, 0, 0, 0] u57 (allT [9, 0, 0, 0, 0, 0, 0, 0, 0, 0, 0, 0, 0, 0, 0, 0, 0, 0, 0, 0, 0, 0, 0, 0, 0, 0, 0, 0, 0, 0, 0, 0] (2 ^ 2) (padL (2 ^ 2) ([[1, 0, 0, 0, 0, 0, 0, 0, 0, 0, 0, 0, 0, 0, 0, 0, 0, 0, 0, 0, 0, 0, 0, 0, 0, 0, 0, 0, 0, 0, 0, 0], [2, 0, 0, 0, 0, 0, 0, 0, 0, 0, 0, 0, 0, 0, 0, 0, 0, 0, 0, 0, 0, 0, 0, 0, 0, 0, 0, 0, 0, 0, 0, 0], [3, 0, 0, 0, 0, 0, 0, 0, 0, 0, 0, 0, 0, 0, 0, 0, 0, 0, 0, 0, 0, 0, 0, 0, 0, 0, 0, 0, 0, 0, 0, 0]] : List (List UInt8)))) cs12 _ (hM.get 6 rfl) hs12 (by first | (simp; done) | (simp [*]; done) | (simp; omega)) (OkTs.all (OkTs.pad hrl56)) (by first | decide | omega) (allT_len (Nat.le_of_eq (padL_length (by first | decide | simp))))) rfl ?_
          rintro e w37 ⟨rfl, hN⟩
          refine ⟨_, rfl, hN.sta0 _, ?_⟩; clear hE a; intro a hE
          replace hM : Mem _ _ w37 [_, _, _, _, _, _, _, _, _, _, _, _, _, _, _] := hM.call0 hN trivial; clear hN
          refine g_yes hE rfl rfl ?_
          refine s_bin hE rfl rfl (eqa34 (OkTs.get (OkTs.all (OkTs.pad hrl56)) 1) (nd_len ..)).2 rfl ?_; clear hE a; intro a hE
          refine s_pickf hE rfl rfl rfl ?_; clear hE a; intro a hE
          refine q_nil ?_
          replace hE : Env a 321 [(0, _), (1, _), (2, _), (3, _), (4, _), (5, _), (6, _), (8, _), (10, _), (12, _), (14, _), (16, _), (18, _), (143, _)] := hE.sel [0, 1, 2, 3, 4, 5, 6, 8, 10, 12, 14, 16, 18, 143] rfl
          refine hK12 _ _ ?_
          replace hE := hE.cast 143 rfl (show _ = Value.bool false from (congrArg Value.bool (by rw [ktop]; simp)))
          refine wp_cond_false (hE.eval rfl) ?_
          refine wp_skip ?_
          refine hK11 _ _ ?_
          refine wp_seq_k (fun K13 hK13 => ?_)
          refine wp_plain [true, true, false, true, true, true, true, true] rfl rfl ?_
          refine s_move hE rfl rfl ?_; clear hE a; intro a hE
          refine s_loadN hE rfl (hM.get 9 rfl) row34 rfl (by intro X h; cases h) rfl ?_; clear hE a; intro a hE
          replace hM : Mem _ _ w37 [_, _, _, _, _, _, _, _, _, _, _, _, _, _, _] := hM.pick [7, 0, 1, 2, 3, 4, 5, 6, 8, 9, 10, 11, 12, 13, 14] rfl
          refine s_call hE rfl Tryd.call11 (tsetI_c b57 2 [9, 0, 0, 0, 0, 0, 0, 0, 0, 0, 0, 0, 0, 0, 0, 0, 0, 0, 0, 0, 0, 0, 0, 0, 0, 0, 0, 0, 0, 0, 0, 0] [4, 0, 0, 0, 0, 0, 0, 0, 0, 0, 0, 0, 0, 0, 0, 0, 0, 0, 0, 0, 0, 0, 0, 0, 0, 0, 0, 0, 0, 0, 0, 0] u57 (padL (2 ^ 2) ([[1, 0, 0, 0, 0, 0, 0, 0, 0, 0, 0, 0, 0, 0, 0, 0, 0, 0, 0, 0, 0, 0, 0, 0, 0, 0, 0, 0, 0, 0, 0, 0], [2, 0, 0, 0, 0, 0, 0, 0, 0, 0, 0, 0, 0, 0, 0, 0, 0, 0, 0, 0, 0, 0, 0, 0, 0, 0, 0, 0, 0, 0, 0, 0], [3, 0, 0, 0, 0, 0, 0, 0, 0, 0, 0, 0, 0, 0, 0, 0, 0, 0, 0, 0, 0, 0, 0, 0, 0, 0, 0, 0, 0, 0, 0, 0]] : List (List UInt8))) 3 _ (hM.get 14 rfl) (hM.get 7 rfl) (hM.get 0 rfl) (fun x hx => ((apart_of_get hM.apart (i := 0) (j := 7) rfl rfl (by decide)).1 x hx).1) (fun x hx => ((apart_of_get hM.apart (i := 0) (j := 14) rfl rfl (by decide)).1 x hx).2) (by first | (simp; done) | (simp [*]; done) | (simp; omega)) (OkTs.pad hrl56) (by first | decide | omega) (padL_length (by first | decide | simp)) (by first | (simp; done) | (simp [*]; done) | (simp; omega))) rfl ?_
          rintro e w38 ⟨q147, rfl, hN⟩
          refine ⟨_, rfl, trivial, ?_⟩; clear hE a; intro a hE
          replace hM : Mem _ _ w38 [_, _, _, _, _, _, _, _, _, _, _, _, _, _, _, _] := hM.call1' hN ⟨rfl, rfl, trivial⟩; clear hN
          replace hE := hE.cast 147 rfl (show _ = Value.tuple #[q147, .int .i64 0] from tupE (n := 0) (eZ_0 (by decide)))
          replace hM := Mem.ownRowsEq (f := intC) (ls := chgZ [9, 0, 0, 0, 0, 0, 0, 0, 0, 0, 0, 0, 0, 0, 0, 0, 0, 0, 0, 0, 0, 0, 0, 0, 0, 0, 0, 0, 0, 0, 0, 0] 2 (padL (2 ^ 2) ([[1, 0, 0, 0, 0, 0, 0, 0, 0, 0, 0, 0, 0, 0, 0, 0, 0, 0, 0, 0, 0, 0, 0, 0, 0, 0, 0, 0, 0, 0, 0, 0], [2, 0, 0, 0, 0, 0, 0, 0, 0, 0, 0, 0, 0, 0, 0, 0, 0, 0, 0, 0, 0, 0, 0, 0, 0, 0, 0, 0, 0, 0, 0, 0], [3, 0, 0, 0, 0, 0, 0, 0, 0, 0, 0, 0, 0, 0, 0, 0, 0, 0, 0, 0, 0, 0, 0, 0, 0, 0, 0, 0, 0, 0, 0, 0]] : List (List UInt8))) 3 [4, 0, 0, 0, 0, 0, 0, 0, 0, 0, 0, 0, 0, 0, 0, 0, 0, 0, 0, 0, 0, 0, 0, 0, 0, 0, 0, 0, 0, 0, 0, 0]) (ms := ([3, 1] : List Nat)) hM kn_chg
          refine s_move hE rfl rfl ?_; clear hE a; intro a hE
          refine s_extract hE rfl rfl rfl ?_; clear hE a; intro a hE
          refine s_extract hE rfl rfl rfl ?_; clear hE a; intro a hE
          refine s_assign hE rfl rfl ?_; clear hE a; intro a hE
          refine s_assign hE rfl rfl ?_; clear hE a; intro a hE
          refine q_nil ?_
          replace hE : Env a 321 [(0, _), (1, _), (2, _), (3, _), (4, _), (5, _), (6, _), (8, _), (10, _), (12, _), (14, _), (16, _), (18, _), (19, _), (20, _), (143, _)] := hE.sel [0, 1, 2, 3, 4, 5, 6, 8, 10, 12, 14, 16, 18, 19, 20, 143] rfl
          refine hK13 _ _ ?_
          refine wp_seq_k (fun K14 hK14 => ?_)
          refine wp_plain [true, true, false, true, true, true, true, true] rfl rfl ?_
          refine s_move hE rfl rfl ?_; clear hE a; intro a hE
          refine s_loadN hE rfl (hM.get 10 rfl) row34 rfl (by intro X h; cases h) rfl ?_; clear hE a; intro a hE
          replace hM : Mem _ _ w38 [_, _, _, _, _, _, _, _, _, _, _, _, _, _, _, _] := hM.pick [1, 0, 2, 3, 4, 5, 6, 7, 8, 9, 10, 11, 12, 13, 14, 15] rfl
          refine s_call hE rfl Tryd.call11 (tsetI_c b57 2 [9, 0, 0, 0, 0, 0, 0, 0, 0, 0, 0, 0, 0, 0, 0, 0, 0, 0, 0, 0, 0, 0, 0, 0, 0, 0, 0, 0, 0, 0, 0, 0] [4, 0, 0, 0, 0, 0, 0, 0, 0, 0, 0, 0, 0, 0, 0, 0, 0, 0, 0, 0, 0, 0, 0, 0, 0, 0, 0, 0, 0, 0, 0, 0] u57 (lvZ (padL (2 ^ 2) ([[1, 0, 0, 0, 0, 0, 0, 0, 0, 0, 0, 0, 0, 0, 0, 0, 0, 0, 0, 0, 0, 0, 0, 0, 0, 0, 0, 0, 0, 0, 0, 0], [2, 0, 0, 0, 0, 0, 0, 0, 0, 0, 0, 0, 0, 0, 0, 0, 0, 0, 0, 0, 0, 0, 0, 0, 0, 0, 0, 0, 0, 0, 0, 0], [3, 0, 0, 0, 0, 0, 0, 0, 0, 0, 0, 0, 0, 0, 0, 0, 0, 0, 0, 0, 0, 0, 0, 0, 0, 0, 0, 0, 0, 0, 0, 0]] : List (List UInt8))) 2 3 [4, 0, 0, 0, 0, 0, 0, 0, 0, 0, 0, 0, 0, 0, 0, 0, 0, 0, 0, 0, 0, 0, 0, 0, 0, 0, 0, 0, 0, 0, 0, 0]) 3 _ (hM.get 15 rfl) (hM.get 8 rfl) (hM.get 0 rfl) (fun x hx => ((apart_of_get hM.apart (i := 0) (j := 8) rfl rfl (by decide)).1 x hx).1) (fun x hx => ((apart_of_get hM.apart (i := 0) (j := 15) rfl rfl (by decide)).1 x hx).2) (by first | (simp; done) | (simp [*]; done) | (simp; omega)) (lvZ_ok (OkTs.pad hrl56) (by first | (simp; done) | (simp [*]; done) | (simp; omega))) (by first | decide | omega) (lvZ_len.trans (padL_length (by first | decide | simp))) (by first | (simp; done) | (simp [*]; done) | (simp; omega))) rfl ?_
          rintro e w39 ⟨q153, rfl, hN⟩
          refine ⟨_, rfl, trivial, ?_⟩; clear hE a; intro a hE
          replace hM : Mem _ _ w39 [_, _, _, _, _, _, _, _, _, _, _, _, _, _, _, _, _] := hM.call1' hN ⟨rfl, rfl, trivial⟩; clear hN
          replace hE := hE.cast 153 rfl (show _ = Value.tuple #[q153, .int .i64 0] from tupE (n := 0) (eZ_0 (by decide)))
          replace hM := Mem.ownRowsEq (f := intC) (ls := chgZ [9, 0, 0, 0, 0, 0, 0, 0, 0, 0, 0, 0, 0, 0, 0, 0, 0, 0, 0, 0, 0, 0, 0, 0, 0, 0, 0, 0, 0, 0, 0, 0] 2 (lvZ (padL (2 ^ 2) ([[1, 0, 0, 0, 0, 0, 0, 0, 0, 0, 0, 0, 0, 0, 0, 0, 0, 0, 0, 0, 0, 0, 0, 0, 0, 0, 0, 0, 0, 0, 0, 0], [2, 0, 0, 0, 0, 0, 0, 0, 0, 0, 0, 0, 0, 0, 0, 0, 0, 0, 0, 0, 0, 0, 0, 0, 0, 0, 0, 0, 0, 0, 0, 0], [3, 0, 0, 0, 0, 0, 0, 0, 0, 0, 0, 0, 0, 0, 0, 0, 0, 0, 0, 0, 0, 0, 0, 0, 0, 0, 0, 0, 0, 0, 0, 0]] : List (List UInt8))) 2 3 [4, 0, 0, 0, 0, 0, 0, 0, 0, 0, 0, 0, 0, 0, 0, 0, 0, 0, 0, 0, 0, 0, 0, 0, 0, 0, 0, 0, 0, 0, 0, 0]) 3 [4, 0, 0, 0, 0, 0, 0, 0, 0, 0, 0, 0, 0, 0, 0, 0, 0, 0, 0, 0, 0, 0, 0, 0, 0, 0, 0, 0, 0, 0, 0, 0]) (ms := ([] : List Nat)) hM (ex_again rfl)
          refine s_move hE rfl rfl ?_; clear hE a; intro a hE
          refine s_extract hE rfl rfl rfl ?_; clear hE a; intro a hE
          refine s_extract hE rfl rfl rfl ?_; clear hE a; intro a hE
          refine s_assign hE rfl rfl ?_; clear hE a; intro a hE
          refine s_assign hE rfl rfl ?_; clear hE a; intro a hE
          refine q_nil ?_
          replace hE : Env a 321 [(0, _), (1, _), (2, _), (3, _), (4, _), (5, _), (6, _), (8, _), (10, _), (12, _), (14, _), (16, _), (18, _), (19, _), (20, _), (21, _), (22, _), (143, _)] := hE.sel [0, 1, 2, 3, 4, 5, 6, 8, 10, 12, 14, 16, 18, 19, 20, 21, 22, 143] rfl
          refine hK14 _ _ ?_
          refine wp_seq_k (fun K15 hK15 => ?_)
          refine wp_plain [true, true, false, true, true, true, true, true] rfl rfl ?_
          refine s_move hE rfl rfl ?_; clear hE a; intro a hE
          refine s_loadN hE rfl (hM.get 11 rfl) row34 rfl (by intro X h; cases h) rfl ?_; clear hE a; intro a hE
          replace hM : Mem _ _ w39 [_, _, _, _, _, _, _, _, _, _, _, _, _, _, _, _, _] := hM.pick [1, 0, 2, 3, 4, 5, 6, 7, 8, 9, 10, 11, 12, 13, 14, 15, 16] rfl
          refine s_call hE rfl Tryd.call11 (tsetI_c b57 2 [9, 0, 0, 0, 0, 0, 0, 0, 0, 0, 0, 0, 0, 0, 0, 0, 0, 0, 0, 0, 0, 0, 0, 0, 0, 0, 0, 0, 0, 0, 0, 0] [4, 0, 0, 0, 0, 0, 0, 0, 0, 0, 0, 0, 0, 0, 0, 0, 0, 0, 0, 0, 0, 0, 0, 0, 0, 0, 0, 0, 0, 0, 0, 0] u57 (lvZ (lvZ (padL (2 ^ 2) ([[1, 0, 0, 0, 0, 0, 0, 0, 0, 0, 0, 0, 0, 0, 0, 0, 0, 0, 0, 0, 0, 0, 0, 0, 0, 0, 0, 0, 0, 0, 0, 0], [2, 0, 0, 0, 0, 0, 0, 0, 0, 0, 0, 0, 0, 0, 0, 0, 0, 0, 0, 0, 0, 0, 0, 0, 0, 0, 0, 0, 0, 0, 0, 0], [3, 0, 0, 0, 0, 0, 0, 0, 0, 0, 0, 0, 0, 0, 0, 0, 0, 0, 0, 0, 0, 0, 0, 0, 0, 0, 0, 0, 0, 0, 0, 0]] : List (List UInt8))) 2 3 [4, 0, 0, 0, 0, 0, 0, 0, 0, 0, 0, 0, 0, 0, 0, 0, 0, 0, 0, 0, 0, 0, 0, 0, 0, 0, 0, 0, 0, 0, 0, 0]) 2 3 [4, 0, 0, 0, 0, 0, 0, 0, 0, 0, 0, 0, 0, 0, 0, 0, 0, 0, 0, 0, 0, 0, 0, 0, 0, 0, 0, 0, 0, 0, 0, 0]) 4 _ (hM.get 16 rfl) (hM.get 9 rfl) (hM.get 0 rfl) (fun x hx => ((apart_of_get hM.apart (i := 0) (j := 9) rfl rfl (by decide)).1 x hx).1) (fun x hx => ((apart_of_get hM.apart (i := 0) (j := 16) rfl rfl (by decide)).1 x hx).2) (by first | (simp; done) | (simp [*]; done) | (simp; omega)) (lvZ_ok (lvZ_ok (OkTs.pad hrl56) (by first | (simp; done) | (simp [*]; done) | (simp; omega))) (by first | (simp; done) | (simp [*]; done) | (simp; omega))) (by first | decide | omega) (lvZ_len.trans (lvZ_len.trans (padL_length (by first | decide | simp)))) (by first | (simp; done) | (simp [*]; done) | (simp; omega))) rfl ?_
          rintro e w40 ⟨q159, rfl, hN⟩
          refine ⟨_, rfl, trivial, ?_⟩; clear hE a; intro a hE
          replace hM : Mem _ _ w40 [_, _, _, _, _, _, _, _, _, _, _, _, _, _, _, _, _, _] := hM.call1' hN ⟨rfl, rfl, trivial⟩; clear hN
          replace hE := hE.cast 159 rfl (show _ = Value.tuple #[q159, .int .i64 2] from tupE (n := 2) (eZ_out (by decide)))
          refine s_move hE rfl rfl ?_; clear hE a; intro a hE
          refine s_extract hE rfl rfl rfl ?_; clear hE a; intro a hE
          refine s_extract hE rfl rfl rfl ?_; clear hE a; intro a hE
          refine s_assign hE rfl rfl ?_; clear hE a; intro a hE
          refine s_assign hE rfl rfl ?_; clear hE a; intro a hE
          refine q_nil ?_
          replace hE : Env a 321 [(0, _), (1, _), (2, _), (3, _), (4, _), (5, _), (6, _), (8, _), (10, _), (12, _), (14, _), (16, _), (18, _), (19, _), (20, _), (21, _), (22, _), (24, _), (143, _)] := hE.sel [0, 1, 2, 3, 4, 5, 6, 8, 10, 12, 14, 16, 18, 19, 20, 21, 22, 24, 143] rfl
          refine hK15 _ _ ?_
          refine wp_seq_k (fun K16 hK16 => ?_)
          refine wp_plain [false, true] rfl rfl ?_
          refine s_call hE rfl Tryd.call15 (tpathI_c 2 3 _) rfl ?_
          rintro e w41 ⟨v162, rfl, hN⟩
          refine ⟨_, rfl, trivial, ?_⟩; clear hE a; intro a hE
          replace hM : Mem _ _ w41 [_, _, _, _, _, _, _, _, _, _, _, _, _, _, _, _, _, _, _] := hM.call0 hN ⟨rfl, trivial⟩; clear hN
          replace hM := Mem.ownRowsEq (f := intC) (ls := pathZ 2 3) (ms := ([3, 1] : List Nat)) hM kp23
          refine s_assign hE rfl rfl ?_; clear hE a; intro a hE
          refine q_nil ?_
          replace hE : Env a 321 [(0, _), (1, _), (2, _), (3, _), (4, _), (5, _), (6, _), (8, _), (10, _), (12, _), (14, _), (16, _), (18, _), (19, _), (20, _), (21, _), (22, _), (24, _), (25, _), (143, _)] := hE.sel [0, 1, 2, 3, 4, 5, 6, 8, 10, 12, 14, 16, 18, 19, 20, 21, 22, 24, 25, 143] rfl
          refine hK16 _ _ ?_
          refine wp_seq_k (fun K17 hK17 => ?_)
          refine wp_plain [true, false, true, true, true, false, false, true] rfl rfl ?_
          refine s_move hE rfl rfl ?_; clear hE a; intro a hE
          obtain ⟨cs13, hs13⟩ := own_rd (hM.get 2 rfl)
          refine s_call hE rfl Tryd.call24 (tnodeI_c b57 2 [9, 0, 0, 0, 0, 0, 0, 0, 0, 0, 0, 0, 0, 0, 0, 0, 0, 0, 0, 0, 0, 0, 0, 0, 0, 0, 0, 0, 0, 0, 0, 0] u57 (allT [9, 0, 0, 0, 0, 0, 0, 0, 0, 0, 0, 0, 0, 0, 0, 0, 0, 0, 0, 0, 0, 0, 0, 0, 0, 0, 0, 0, 0, 0, 0, 0] (2 ^ 2) (lvZ (lvZ (lvZ (padL (2 ^ 2) ([[1, 0, 0, 0, 0, 0, 0, 0, 0, 0, 0, 0, 0, 0, 0, 0, 0, 0, 0, 0, 0, 0, 0, 0, 0, 0, 0, 0, 0, 0, 0, 0], [2, 0, 0, 0, 0, 0, 0, 0, 0, 0, 0, 0, 0, 0, 0, 0, 0, 0, 0, 0, 0, 0, 0, 0, 0, 0, 0, 0, 0, 0, 0, 0], [3, 0, 0, 0, 0, 0, 0, 0, 0, 0, 0, 0, 0, 0, 0, 0, 0, 0, 0, 0, 0, 0, 0, 0, 0, 0, 0, 0, 0, 0, 0, 0]] : List (List UInt8))) 2 3 [4, 0, 0, 0, 0, 0, 0, 0, 0, 0, 0, 0, 0, 0, 0, 0, 0, 0, 0, 0, 0, 0, 0, 0, 0, 0, 0, 0, 0, 0, 0, 0]) 2 3 [4, 0, 0, 0, 0, 0, 0, 0, 0, 0, 0, 0, 0, 0, 0, 0, 0, 0, 0, 0, 0, 0, 0, 0, 0, 0, 0, 0, 0, 0, 0, 0]) 2 4 [4, 0, 0, 0, 0, 0, 0, 0, 0, 0, 0, 0, 0, 0, 0, 0, 0, 0, 0, 0, 0, 0, 0, 0, 0, 0, 0, 0, 0, 0, 0, 0])) cs13 4 _ (hM.get 11 rfl) hs13 (by first | (simp; done) | (simp [*]; done) | (simp; omega)) (OkTs.all (lvZ_ok (lvZ_ok (lvZ_ok (OkTs.pad hrl56) (by first | (simp; done) | (simp [*]; done) | (simp; omega))) (by first | (simp; done) | (simp [*]; done) | (simp; omega))) (by first | (simp; done) | (simp [*]; done) | (simp; omega)))) (by first | decide | omega) (allT_len (Nat.le_of_eq (lvZ_len.trans (lvZ_len.trans (lvZ_len.trans (padL_length (by first | decide | simp)))))))) rfl ?_
          rintro e w42 ⟨rfl, hN⟩
          refine ⟨_, rfl, trivial, ?_⟩; clear hE a; intro a hE
          replace hM : Mem _ _ w42 [_, _, _, _, _, _, _, _, _, _, _, _, _, _, _, _, _, _, _] := hM.call0 hN trivial; clear hN
          replace hE := hE.cast 165 rfl (show _ = Value.tuple #[.agg (bv (nodeZ (allT [9, 0, 0, 0, 0, 0, 0, 0, 0, 0, 0, 0, 0, 0, 0, 0, 0, 0, 0, 0, 0, 0, 0, 0, 0, 0, 0, 0, 0, 0, 0, 0] (2 ^ 2) (lvZ (lvZ (lvZ (padL (2 ^ 2) ([[1, 0, 0, 0, 0, 0, 0, 0, 0, 0, 0, 0, 0, 0, 0, 0, 0, 0, 0, 0, 0, 0, 0, 0, 0, 0, 0, 0, 0, 0, 0, 0], [2, 0, 0, 0, 0, 0, 0, 0, 0, 0, 0, 0, 0, 0, 0, 0, 0, 0, 0, 0, 0, 0, 0, 0, 0, 0, 0, 0, 0, 0, 0, 0], [3, 0, 0, 0, 0, 0, 0, 0, 0, 0, 0, 0, 0, 0, 0, 0, 0, 0, 0, 0, 0, 0, 0, 0, 0, 0, 0, 0, 0, 0, 0, 0]] : List (List UInt8))) 2 3 [4, 0, 0, 0, 0, 0, 0, 0, 0, 0, 0, 0, 0, 0, 0, 0, 0, 0, 0, 0, 0, 0, 0, 0, 0, 0, 0, 0, 0, 0, 0, 0]) 2 3 [4, 0, 0, 0, 0, 0, 0, 0, 0, 0, 0, 0, 0, 0, 0, 0, 0, 0, 0, 0, 0, 0, 0, 0, 0, 0, 0, 0, 0, 0, 0, 0]) 2 4 [4, 0, 0, 0, 0, 0, 0, 0, 0, 0, 0, 0, 0, 0, 0, 0, 0, 0, 0, 0, 0, 0, 0, 0, 0, 0, 0, 0, 0, 0, 0, 0])) (2 ^ 2) 4)).toArray, .int .i64 2] from tupE (n := 2) (eZ_out (by decide)))
          refine s_move hE rfl rfl ?_; clear hE a; intro a hE
          refine s_extract hE rfl rfl rfl ?_; clear hE a; intro a hE
          refine s_extract hE rfl rfl rfl ?_; clear hE a; intro a hE
          refine s_alloc [64] hE hM zero52 rfl rfl ?_; clear hE a; intro a b26 w43 hE hM'
          clear hM; have hM := hM'; clear hM'
          refine s_storeSeg 0 hE rfl rfl hM rfl sz52 ((bv_length _).trans (nodeZ_len (OkTs.all (lvZ_ok (lvZ_ok (lvZ_ok (OkTs.pad hrl56) (by first | (simp; done) | (simp [*]; done) | (simp; omega))) (by first | (simp; done) | (simp [*]; done) | (simp; omega))) (by first | (simp; done) | (simp [*]; done) | (simp; omega)))))) (bv_one _) rfl ((bv_length _).trans (by first | (simp; done) | (simp [*]; done) | (simp; omega))) rfl (by intro X h; cases h) ?_; intro w44 hM'; clear hM; have hM := hM'; clear hM'
          simp only [List.set_cons_zero, List.set_cons_succ] at hM
          refine s_assign hE rfl rfl ?_; clear hE a; intro a hE
          refine q_nil ?_
          replace hE : Env a 321 [(0, _), (1, _), (2, _), (3, _), (4, _), (5, _), (6, _), (8, _), (10, _), (12, _), (14, _), (16, _), (18, _), (19, _), (20, _), (21, _), (22, _), (24, _), (25, _), (27, _), (143, _)] := hE.sel [0, 1, 2, 3, 4, 5, 6, 8, 10, 12, 14, 16, 18, 19, 20, 21, 22, 24, 25, 27, 143] rfl
          refine hK17 _ _ ?_
          refine wp_seq_k (fun K18 hK18 => ?_)
          refine wp_plain [true, false, true, true, true, false, false, true] rfl rfl ?_
          refine s_move hE rfl rfl ?_; clear hE a; intro a hE
          obtain ⟨cs14, hs14⟩ := own_rd (hM.get 3 rfl)
          refine s_call hE rfl Tryd.call13 (ttagI_c b57 2 [9, 0, 0, 0, 0, 0, 0, 0, 0, 0, 0, 0, 0, 0, 0, 0, 0, 0, 0, 0, 0, 0, 0, 0, 0, 0, 0, 0, 0, 0, 0, 0] u57 (allT [9, 0, 0, 0, 0, 0, 0, 0, 0, 0, 0, 0, 0, 0, 0, 0, 0, 0, 0, 0, 0, 0, 0, 0, 0, 0, 0, 0, 0, 0, 0, 0] (2 ^ 2) (lvZ (lvZ (lvZ (padL (2 ^ 2) ([[1, 0, 0, 0, 0, 0, 0, 0, 0, 0, 0, 0, 0, 0, 0, 0, 0, 0, 0, 0, 0, 0, 0, 0, 0, 0, 0, 0, 0, 0, 0, 0], [2, 0, 0, 0, 0, 0, 0, 0, 0, 0, 0, 0, 0, 0, 0, 0, 0, 0, 0, 0, 0, 0, 0, 0, 0, 0, 0, 0, 0, 0, 0, 0], [3, 0, 0, 0, 0, 0, 0, 0, 0, 0, 0, 0, 0, 0, 0, 0, 0, 0, 0, 0, 0, 0, 0, 0, 0, 0, 0, 0, 0, 0, 0, 0]] : List (List UInt8))) 2 3 [4, 0, 0, 0, 0, 0, 0, 0, 0, 0, 0, 0, 0, 0, 0, 0, 0, 0, 0, 0, 0, 0, 0, 0, 0, 0, 0, 0, 0, 0, 0, 0]) 2 3 [4, 0, 0, 0, 0, 0, 0, 0, 0, 0, 0, 0, 0, 0, 0, 0, 0, 0, 0, 0, 0, 0, 0, 0, 0, 0, 0, 0, 0, 0, 0, 0]) 2 4 [4, 0, 0, 0, 0, 0, 0, 0, 0, 0, 0, 0, 0, 0, 0, 0, 0, 0, 0, 0, 0, 0, 0, 0, 0, 0, 0, 0, 0, 0, 0, 0])) cs14 8 _ (hM.get 12 rfl) hs14 (by first | (simp; done) | (simp [*]; done) | (simp; omega)) (OkTs.all (lvZ_ok (lvZ_ok (lvZ_ok (OkTs.pad hrl56) (by first | (simp; done) | (simp [*]; done) | (simp; omega))) (by first | (simp; done) | (simp [*]; done) | (simp; omega))) (by first | (simp; done) | (simp [*]; done) | (simp; omega)))) (by first | decide | omega) (allT_len (Nat.le_of_eq (lvZ_len.trans (lvZ_len.trans (lvZ_len.trans (padL_length (by first | decide | simp)))))))) rfl ?_
          rintro e w45 ⟨rfl, hN⟩
          refine ⟨_, rfl, trivial, ?_⟩; clear hE a; intro a hE
          replace hM : Mem _ _ w45 [_, _, _, _, _, _, _, _, _, _, _, _, _, _, _, _, _, _, _, _] := hM.call0 hN trivial; clear hN
          replace hE := hE.cast 170 rfl (show _ = Value.tuple #[.agg (bv (tagZ (allT [9, 0, 0, 0, 0, 0, 0, 0, 0, 0, 0, 0, 0, 0, 0, 0, 0, 0, 0, 0, 0, 0, 0, 0, 0, 0, 0, 0, 0, 0, 0, 0] (2 ^ 2) (lvZ (lvZ (lvZ (padL (2 ^ 2) ([[1, 0, 0, 0, 0, 0, 0, 0, 0, 0, 0, 0, 0, 0, 0, 0, 0, 0, 0, 0, 0, 0, 0, 0, 0, 0, 0, 0, 0, 0, 0, 0], [2, 0, 0, 0, 0, 0, 0, 0, 0, 0, 0, 0, 0, 0, 0, 0, 0, 0, 0, 0, 0, 0, 0, 0, 0, 0, 0, 0, 0, 0, 0, 0], [3, 0, 0, 0, 0, 0, 0, 0, 0, 0, 0, 0, 0, 0, 0, 0, 0, 0, 0, 0, 0, 0, 0, 0, 0, 0, 0, 0, 0, 0, 0, 0]] : List (List UInt8))) 2 3 [4, 0, 0, 0, 0, 0, 0, 0, 0, 0, 0, 0, 0, 0, 0, 0, 0, 0, 0, 0, 0, 0, 0, 0, 0, 0, 0, 0, 0, 0, 0, 0]) 2 3 [4, 0, 0, 0, 0, 0, 0, 0, 0, 0, 0, 0, 0, 0, 0, 0, 0, 0, 0, 0, 0, 0, 0, 0, 0, 0, 0, 0, 0, 0, 0, 0]) 2 4 [4, 0, 0, 0, 0, 0, 0, 0, 0, 0, 0, 0, 0, 0, 0, 0, 0, 0, 0, 0, 0, 0, 0, 0, 0, 0, 0, 0, 0, 0, 0, 0])) (2 ^ 2) 8)).toArray, .int .i64 2] from tupE (n := 2) (eZ_out (by decide)))
          refine s_move hE rfl rfl ?_; clear hE a; intro a hE
          refine s_extract hE rfl rfl rfl ?_; clear hE a; intro a hE
          refine s_extract hE rfl rfl rfl ?_; clear hE a; intro a hE
          refine s_alloc [32] hE hM zero34 rfl rfl ?_; clear hE a; intro a b28 w46 hE hM'
          clear hM; have hM := hM'; clear hM'
          refine s_storeSeg 0 hE rfl rfl hM rfl sz34 ((bv_length _).trans (tagZ_len (OkTs.all (lvZ_ok (lvZ_ok (lvZ_ok (OkTs.pad hrl56) (by first | (simp; done) | (simp [*]; done) | (simp; omega))) (by first | (simp; done) | (simp [*]; done) | (simp; omega))) (by first | (simp; done) | (simp [*]; done) | (simp; omega)))))) (bv_one _) rfl ((bv_length _).trans (by first | (simp; done) | (simp [*]; done) | (simp; omega))) rfl (by intro X h; cases h) ?_; intro w47 hM'; clear hM; have hM := hM'; clear hM'
          simp only [List.set_cons_zero, List.set_cons_succ] at hM
          refine s_assign hE rfl rfl ?_; clear hE a; intro a hE
          refine q_nil ?_
          replace hE : Env a 321 [(0, _), (1, _), (2, _), (3, _), (4, _), (5, _), (6, _), (8, _), (10, _), (12, _), (14, _), (16, _), (18, _), (19, _), (20, _), (21, _), (22, _), (24, _), (25, _), (27, _), (29, _), (143, _)] := hE.sel [0, 1, 2, 3, 4, 5, 6, 8, 10, 12, 14, 16, 18, 19, 20, 21, 22, 24, 25, 27, 29, 143] rfl
          refine hK18 _ _ ?_
          refine wp_seq_k (fun K19 hK19 => ?_)
          refine wp_plain [true, false, true, true, true, false, false, true] rfl rfl ?_
          refine s_move hE rfl rfl ?_; clear hE a; intro a hE
          obtain ⟨cs15, hs15⟩ := own_rd (hM.get 4 rfl)
          refine s_call hE rfl Tryd.call13 (ttagI_c b57 2 [9, 0, 0, 0, 0, 0, 0, 0, 0, 0, 0, 0, 0, 0, 0, 0, 0, 0, 0, 0, 0, 0, 0, 0, 0, 0, 0, 0, 0, 0, 0, 0] u57 (allT [9, 0, 0, 0, 0, 0, 0, 0, 0, 0, 0, 0, 0, 0, 0, 0, 0, 0, 0, 0, 0, 0, 0, 0, 0, 0, 0, 0, 0, 0, 0, 0] (2 ^ 2) (lvZ (lvZ (lvZ (padL (2 ^ 2) ([[1, 0, 0, 0, 0, 0, 0, 0, 0, 0, 0, 0, 0, 0, 0, 0, 0, 0, 0, 0, 0, 0, 0, 0, 0, 0, 0, 0, 0, 0, 0, 0], [2, 0, 0, 0, 0, 0, 0, 0, 0, 0, 0, 0, 0, 0, 0, 0, 0, 0, 0, 0, 0, 0, 0, 0, 0, 0, 0, 0, 0, 0, 0, 0], [3, 0, 0, 0, 0, 0, 0, 0, 0, 0, 0, 0, 0, 0, 0, 0, 0, 0, 0, 0, 0, 0, 0, 0, 0, 0, 0, 0, 0, 0, 0, 0]] : List (List UInt8))) 2 3 [4, 0, 0, 0, 0, 0, 0, 0, 0, 0, 0, 0, 0, 0, 0, 0, 0, 0, 0, 0, 0, 0, 0, 0, 0, 0, 0, 0, 0, 0, 0, 0]) 2 3 [4, 0, 0, 0, 0, 0, 0, 0, 0, 0, 0, 0, 0, 0, 0, 0, 0, 0, 0, 0, 0, 0, 0, 0, 0, 0, 0, 0, 0, 0, 0, 0]) 2 4 [4, 0, 0, 0, 0, 0, 0, 0, 0, 0, 0, 0, 0, 0, 0, 0, 0, 0, 0, 0, 0, 0, 0, 0, 0, 0, 0, 0, 0, 0, 0, 0])) cs15 0 _ (hM.get 13 rfl) hs15 (by first | (simp; done) | (simp [*]; done) | (simp; omega)) (OkTs.all (lvZ_ok (lvZ_ok (lvZ_ok (OkTs.pad hrl56) (by first | (simp; done) | (simp [*]; done) | (simp; omega))) (by first | (simp; done) | (simp [*]; done) | (simp; omega))) (by first | (simp; done) | (simp [*]; done) | (simp; omega)))) (by first | decide | omega) (allT_len (Nat.le_of_eq (lvZ_len.trans (lvZ_len.trans (lvZ_len.trans (padL_length (by first | decide | simp)))))))) rfl ?_
          rintro e w48 ⟨rfl, hN⟩
          refine ⟨_, rfl, trivial, ?_⟩; clear hE a; intro a hE
          replace hM : Mem _ _ w48 [_, _, _, _, _, _, _, _, _, _, _, _, _, _, _, _, _, _, _, _, _] := hM.call0 hN trivial; clear hN
          replace hE := hE.cast 175 rfl (show _ = Value.tuple #[.agg (bv (tagZ (allT [9, 0, 0, 0, 0, 0, 0, 0, 0, 0, 0, 0, 0, 0, 0, 0, 0, 0, 0, 0, 0, 0, 0, 0, 0, 0, 0, 0, 0, 0, 0, 0] (2 ^ 2) (lvZ (lvZ (lvZ (padL (2 ^ 2) ([[1, 0, 0, 0, 0, 0, 0, 0, 0, 0, 0, 0, 0, 0, 0, 0, 0, 0, 0, 0, 0, 0, 0, 0, 0, 0, 0, 0, 0, 0, 0, 0], [2, 0, 0, 0, 0, 0, 0, 0, 0, 0, 0, 0, 0, 0, 0, 0, 0, 0, 0, 0, 0, 0, 0, 0, 0, 0, 0, 0, 0, 0, 0, 0], [3, 0, 0, 0, 0, 0, 0, 0, 0, 0, 0, 0, 0, 0, 0, 0, 0, 0, 0, 0, 0, 0, 0, 0, 0, 0, 0, 0, 0, 0, 0, 0]] : List (List UInt8))) 2 3 [4, 0, 0, 0, 0, 0, 0, 0, 0, 0, 0, 0, 0, 0, 0, 0, 0, 0, 0, 0, 0, 0, 0, 0, 0, 0, 0, 0, 0, 0, 0, 0]) 2 3 [4, 0, 0, 0, 0, 0, 0, 0, 0, 0, 0, 0, 0, 0, 0, 0, 0, 0, 0, 0, 0, 0, 0, 0, 0, 0, 0, 0, 0, 0, 0, 0]) 2 4 [4, 0, 0, 0, 0, 0, 0, 0, 0, 0, 0, 0, 0, 0, 0, 0, 0, 0, 0, 0, 0, 0, 0, 0, 0, 0, 0, 0, 0, 0, 0, 0])) (2 ^ 2) 0)).toArray, .int .i64 2] from tupE (n := 2) (eZ_out (by decide)))
          refine s_move hE rfl rfl ?_; clear hE a; intro a hE
          refine s_extract hE rfl rfl rfl ?_; clear hE a; intro a hE
          refine s_extract hE rfl rfl rfl ?_; clear hE a; intro a hE
          refine s_alloc [32] hE hM zero34 rfl rfl ?_; clear hE a; intro a b30 w49 hE hM'
          clear hM; have hM := hM'; clear hM'
          refine s_storeSeg 0 hE rfl rfl hM rfl sz34 ((bv_length _).trans (tagZ_len (OkTs.all (lvZ_ok (lvZ_ok (lvZ_ok (OkTs.pad hrl56) (by first | (simp; done) | (simp [*]; done) | (simp; omega))) (by first | (simp; done) | (simp [*]; done) | (simp; omega))) (by first | (simp; done) | (simp [*]; done) | (simp; omega)))))) (bv_one _) rfl ((bv_length _).trans (by first | (simp; done) | (simp [*]; done) | (simp; omega))) rfl (by intro X h; cases h) ?_; intro w50 hM'; clear hM; have hM := hM'; clear hM'
          simp only [List.set_cons_zero, List.set_cons_succ] at hM
          refine s_assign hE rfl rfl ?_; clear hE a; intro a hE
          refine q_nil ?_
          replace hE : Env a 321 [(0, _), (1, _), (2, _), (3, _), (4, _), (5, _), (6, _), (8, _), (10, _), (12, _), (14, _), (16, _), (18, _), (19, _), (20, _), (21, _), (22, _), (24, _), (25, _), (27, _), (29, _), (31, _), (143, _)] := hE.sel [0, 1, 2, 3, 4, 5, 6, 8, 10, 12, 14, 16, 18, 19, 20, 21, 22, 24, 25, 27, 29, 31, 143] rfl
          refine hK19 _ _ ?_
          refine wp_seq_k (fun K20 hK20 => ?_)
          refine wp_plain [true, false, true, true, true, true, true] rfl rfl ?_
          refine s_loadN hE rfl (hM.get 20 rfl) row23 rfl (by intro X h; cases h) rfl ?_; clear hE a; intro a hE
          refine s_call hE rfl Tryd.call10 (tnew_no1 [9, 0, 0, 0, 0, 0, 0, 0, 0, 0, 0, 0, 0, 0, 0, 0, 0, 0, 0, 0, 0, 0, 0, 0, 0, 0, 0, 0, 0, 0, 0, 0] 0 _ ([] : List (List UInt8)) _ _ (by first | (simp; done) | (simp [*]; done) | (simp; omega)) (rd_nilR 32 _) ok_nil (by omega)) rfl ?_
          rintro e w51 ⟨rfl, hN⟩
          refine ⟨_, rfl, trivial, ?_⟩; clear hE a; intro a hE
          replace hM : Mem _ _ w51 [_, _, _, _, _, _, _, _, _, _, _, _, _, _, _, _, _, _, _, _, _, _] := hM.call0 hN trivial; clear hN
          refine s_move hE rfl rfl ?_; clear hE a; intro a hE
          refine s_extract hE rfl rfl rfl ?_; clear hE a; intro a hE
          refine s_extract hE rfl rfl rfl ?_; clear hE a; intro a hE
          refine s_assign hE rfl rfl ?_; clear hE a; intro a hE
          refine s_assign hE rfl rfl ?_; clear hE a; intro a hE
          refine q_nil ?_
          replace hE : Env a 321 [(0, _), (1, _), (2, _), (3, _), (4, _), (5, _), (6, _), (8, _), (10, _), (12, _), (14, _), (16, _), (18, _), (19, _), (20, _), (21, _), (22, _), (24, _), (25, _), (27, _), (29, _), (31, _), (33, _), (143, _)] := hE.sel [0, 1, 2, 3, 4, 5, 6, 8, 10, 12, 14, 16, 18, 19, 20, 21, 22, 24, 25, 27, 29, 31, 33, 143] rfl
          refine hK20 _ _ ?_
          refine wp_seq_k (fun K21 hK21 => ?_)
          refine wp_plain [true, false, true, true, true, true, true] rfl rfl ?_
          refine s_loadN hE rfl (hM.get 20 rfl) row23 rfl (by intro X h; cases h) rfl ?_; clear hE a; intro a hE
          refine s_call hE rfl Tryd.call10 (tnew_no1 [9, 0, 0, 0, 0, 0, 0, 0, 0, 0, 0, 0, 0, 0, 0, 0, 0, 0, 0, 0, 0, 0, 0, 0, 0, 0, 0, 0, 0, 0, 0, 0] 13 _ ([] : List (List UInt8)) _ _ (by first | (simp; done) | (simp [*]; done) | (simp; omega)) (rd_nilR 32 _) ok_nil (by omega)) rfl ?_
          rintro e w52 ⟨rfl, hN⟩
          refine ⟨_, rfl, trivial, ?_⟩; clear hE a; intro a hE
          replace hM : Mem _ _ w52 [_, _, _, _, _, _, _, _, _, _, _, _, _, _, _, _, _, _, _, _, _, _] := hM.call0 hN trivial; clear hN
          refine s_move hE rfl rfl ?_; clear hE a; intro a hE
          refine s_extract hE rfl rfl rfl ?_; clear hE a; intro a hE
          refine s_extract hE rfl rfl rfl ?_; clear hE a; intro a hE
          refine s_assign hE rfl rfl ?_; clear hE a; intro a hE
          refine s_assign hE rfl rfl ?_; clear hE a; intro a hE
          refine q_nil ?_
          replace hE : Env a 321 [(0, _), (1, _), (2, _), (3, _), (4, _), (5, _), (6, _), (8, _), (10, _), (12, _), (14, _), (16, _), (18, _), (19, _), (20, _), (21, _), (22, _), (24, _), (25, _), (27, _), (29, _), (31, _), (33, _), (35, _), (143, _)] := hE.sel [0, 1, 2, 3, 4, 5, 6, 8, 10, 12, 14, 16, 18, 19, 20, 21, 22, 24, 25, 27, 29, 31, 33, 35, 143] rfl
          refine hK21 _ _ ?_
          refine wp_seq_k (fun K22 hK22 => ?_)
          refine wp_drawnM hM (by kernel_rfl) (fun _ => False) [(0, true), (1, false), (2, false), (3, true), (4, true), (5, true), (6, true), (7, true)] [(1, [(2, 1), (3, 2), (4, 3), (5, 3), (6, 1), (7, 1)]), (2, [(3, 2), (4, 3), (5, 3), (6, 2), (7, 2)])] (by kernel_rfl) rfl ?_
          intro w53 hM' hww53; clear hM; have hM := hM'; clear hM'
          refine s_loadN hE rfl (hM.get 20 rfl) row23 rfl (by intro X h; cases h; simp) rfl ?_; clear hE a; intro a hE
          refine s_makeSlice (m := 3) (zc := bv zTg) hE rfl rfl hM sl24 ⟨.agg ([bv (List.replicate 32 0)] : List (List Value)).flatten.toArray, by kernel_rfl, rfl⟩ rfl rfl (by first | decide | omega) (by first | decide | omega) (by decide) rfl ?_; clear hE a; intro a v190 w54 hE hM'; clear hM; have hM := hM'; clear hM'
          replace hM := hM.ownEq (m' := (List.replicate 3 zTg).length) (cs' := (List.replicate 3 zTg).flatMap bv) List.length_replicate.symm (rep_flat rfl)
          obtain ⟨cq16, hq16⟩ := own_rd (hM.get 0 rfl)
          refine s_call hE rfl Tryd.call10 (tnew_no2 [9, 0, 0, 0, 0, 0, 0, 0, 0, 0, 0, 0, 0, 0, 0, 0, 0, 0, 0, 0, 0, 0, 0, 0, 0, 0, 0, 0, 0, 0, 0, 0] 1 _ (List.replicate 3 zTg) _ _ (by first | (simp; done) | (simp [*]; done) | (simp; omega)) hq16 (ok_rep zTg_len) (by omega) (by first | decide | simp)) rfl ?_
          rintro e w55 ⟨rfl, hN⟩
          refine ⟨_, rfl, hN.sta0 _, ?_⟩; clear hE a; intro a hE
          replace hM : Mem _ _ w55 [_, _, _, _, _, _, _, _, _, _, _, _, _, _, _, _, _, _, _, _, _, _, _] := hM.call0 hN trivial; clear hN
          refine s_move hE rfl rfl ?_; clear hE a; intro a hE
          refine s_extract hE rfl rfl rfl ?_; clear hE a; intro a hE
          refine s_extract hE rfl rfl rfl ?_; clear hE a; intro a hE
          refine s_assign hE rfl rfl ?_; clear hE a; intro a hE
          refine s_assign hE rfl rfl ?_; clear hE a; intro a hE
          refine q_nil ?_
          replace hE : Env a 321 [(0, _), (1, _), (2, _), (3, _), (4, _), (5, _), (6, _), (8, _), (10, _), (12, _), (14, _), (16, _), (18, _), (19, _), (20, _), (21, _), (22, _), (24, _), (25, _), (27, _), (29, _), (31, _), (33, _), (35, _), (37, _), (143, _)] := hE.sel [0, 1, 2, 3, 4, 5, 6, 8, 10, 12, 14, 16, 18, 19, 20, 21, 22, 24, 25, 27, 29, 31, 33, 35, 37, 143] rfl
          refine hK22 _ _ ?_
          refine wp_seq_k (fun K23 hK23 => ?_)
          refine wp_plain [true] rfl rfl ?_
          refine s_assign hE rfl rfl ?_; clear hE a; intro a hE
          refine q_nil ?_
          refine hK23 _ _ ?_
          refine wp_seq_k (fun K24 hK24 => ?_)
          refine wp_plain [true, false, true] rfl rfl ?_
          refine s_buildS [] hE rfl zero73 rfl fpl73 (by simp [PartsOk, Value.cells, *]) rfl ?_; clear hE a; intro a hE
          replace hE := hE.cast 194 rfl (show _ = Value.agg ([bv (List.replicate 32 (0 : UInt8)), [.int .i64 0], [.slice none 0 0]] : List (List Value)).flatten.toArray from (by first | rfl | simp [setAll]))
          refine s_box (ss := [bv (List.replicate 32 (0 : UInt8)), [.int .i64 0], [.slice none 0 0]]) [32, 1, 1] hE hM rfl rfl (by simp [*]) rfl ?_; clear hE a; intro a b195 w56 hE hM'
          clear hM; have hM := hM'; clear hM'
          refine s_assign hE rfl rfl ?_; clear hE a; intro a hE
          refine q_nil ?_
          replace hE : Env a 321 [(0, _), (1, _), (2, _), (3, _), (4, _), (5, _), (6, _), (8, _), (10, _), (12, _), (14, _), (16, _), (18, _), (19, _), (20, _), (21, _), (22, _), (24, _), (25, _), (27, _), (29, _), (31, _), (33, _), (35, _), (37, _), (38, _), (39, _), (143, _)] := hE.sel [0, 1, 2, 3, 4, 5, 6, 8, 10, 12, 14, 16, 18, 19, 20, 21, 22, 24, 25, 27, 29, 31, 33, 35, 37, 38, 39, 143] rfl
          refine hK24 _ _ ?_
          refine wp_seq_k (fun K25 hK25 => ?_)
          refine wp_plain [true, true, false, true, true, true, true, true] rfl rfl ?_
          refine s_move hE rfl rfl ?_; clear hE a; intro a hE
          refine s_loadN hE rfl (hM.get 21 rfl) row34 rfl (by intro X h; cases h) rfl ?_; clear hE a; intro a hE
          refine s_call hE rfl Tryd.call11 (tset_nil 0 [1, 0, 0, 0, 0, 0, 0, 0, 0, 0, 0, 0, 0, 0, 0, 0, 0, 0, 0, 0, 0, 0, 0, 0, 0, 0, 0, 0, 0, 0, 0, 0] _ (by first | (simp; done) | (simp [*]; done) | (simp; omega))) rfl ?_
          rintro e w57 ⟨v199, rfl, hN⟩
          refine ⟨_, rfl, trivial, ?_⟩; clear hE a; intro a hE
          replace hM : Mem _ _ w57 [_, _, _, _, _, _, _, _, _, _, _, _, _, _, _, _, _, _, _, _, _, _, _, _, _] := hM.call0 hN ⟨rfl, trivial⟩; clear hN
          refine s_move hE rfl rfl ?_; clear hE a; intro a hE
          refine s_extract hE rfl rfl rfl ?_; clear hE a; intro a hE
          refine s_extract hE rfl rfl rfl ?_; clear hE a; intro a hE
          refine s_assign hE rfl rfl ?_; clear hE a; intro a hE
          refine s_assign hE rfl rfl ?_; clear hE a; intro a hE
          refine q_nil ?_
          replace hE : Env a 321 [(0, _), (1, _), (2, _), (3, _), (4, _), (5, _), (6, _), (8, _), (10, _), (12, _), (14, _), (16, _), (18, _), (19, _), (20, _), (21, _), (22, _), (24, _), (25, _), (27, _), (29, _), (31, _), (33, _), (35, _), (37, _), (38, _), (39, _), (41, _), (143, _)] := hE.sel [0, 1, 2, 3, 4, 5, 6, 8, 10, 12, 14, 16, 18, 19, 20, 21, 22, 24, 25, 27, 29, 31, 33, 35, 37, 38, 39, 41, 143] rfl
          refine hK25 _ _ ?_
          refine wp_seq_k (fun K26 hK26 => ?_)
          refine wp_plain [true, false, true, true, true, true, true] rfl rfl ?_
          refine s_move hE rfl rfl ?_; clear hE a; intro a hE
          refine s_call hE rfl Tryd.call14 (tproof_zero b195 (List.replicate 32 (0 : UInt8)) _ 0 _ (hM.get 1 rfl) List.length_replicate) rfl ?_
          rintro e w58 ⟨v204, rfl, hN⟩
          refine ⟨_, rfl, trivial, ?_⟩; clear hE a; intro a hE
          replace hM : Mem _ _ w58 [_, _, _, _, _, _, _, _, _, _, _, _, _, _, _, _, _, _, _, _, _, _, _, _, _, _] := hM.call0 hN ⟨rfl, trivial⟩; clear hN
          refine s_move hE rfl rfl ?_; clear hE a; intro a hE
          refine s_extract hE rfl rfl rfl ?_; clear hE a; intro a hE
          refine s_extract hE rfl rfl rfl ?_; clear hE a; intro a hE
          refine s_assign hE rfl rfl ?_; clear hE a; intro a hE
          refine s_assign hE rfl rfl ?_; clear hE a; intro a hE
          refine q_nil ?_
          replace hE : Env a 321 [(0, _), (1, _), (2, _), (3, _), (4, _), (5, _), (6, _), (8, _), (10, _), (12, _), (14, _), (16, _), (18, _), (19, _), (20, _), (21, _), (22, _), (24, _), (25, _), (27, _), (29, _), (31, _), (33, _), (35, _), (37, _), (38, _), (39, _), (41, _), (43, _), (143, _)] := hE.sel [0, 1, 2, 3, 4, 5, 6, 8, 10, 12, 14, 16, 18, 19, 20, 21, 22, 24, 25, 27, 29, 31, 33, 35, 37, 38, 39, 41, 43, 143] rfl
          refine hK26 _ _ ?_
          refine wp_seq_k (fun K27 hK27 => ?_)
          refine wp_plain [true, false, true, true, true, false, false, true] rfl rfl ?_
          refine s_move hE rfl rfl ?_; clear hE a; intro a hE
          refine s_call hE rfl Tryd.call13 (ttag_zero b195 (List.replicate 32 (0 : UInt8)) _ 1 _ (hM.get 2 rfl) List.length_replicate) rfl ?_
          rintro e w59 ⟨rfl, hN⟩
          refine ⟨_, rfl, trivial, ?_⟩; clear hE a; intro a hE
          replace hM : Mem _ _ w59 [_, _, _, _, _, _, _, _, _, _, _, _, _, _, _, _, _, _, _, _, _, _, _, _, _, _] := hM.call0 hN trivial; clear hN
          refine s_move hE rfl rfl ?_; clear hE a; intro a hE
          refine s_extract hE rfl rfl rfl ?_; clear hE a; intro a hE
          refine s_extract hE rfl rfl rfl ?_; clear hE a; intro a hE
          refine s_alloc [32] hE hM zero34 rfl rfl ?_; clear hE a; intro a b44 w60 hE hM'
          clear hM; have hM := hM'; clear hM'
          refine s_storeSeg 0 hE rfl rfl hM rfl sz34 ((bv_length _).trans List.length_replicate) (bv_one _) rfl ((bv_length _).trans (by first | (simp; done) | (simp [*]; done) | (simp; omega))) rfl (by intro X h; cases h) ?_; intro w61 hM'; clear hM; have hM := hM'; clear hM'
          simp only [List.set_cons_zero, List.set_cons_succ] at hM
          refine s_assign hE rfl rfl ?_; clear hE a; intro a hE
          refine q_nil ?_
          replace hE : Env a 321 [(0, _), (1, _), (2, _), (3, _), (4, _), (5, _), (6, _), (8, _), (10, _), (12, _), (14, _), (16, _), (18, _), (19, _), (20, _), (21, _), (22, _), (24, _), (25, _), (27, _), (29, _), (31, _), (33, _), (35, _), (37, _), (38, _), (39, _), (41, _), (43, _), (45, _), (143, _)] := hE.sel [0, 1, 2, 3, 4, 5, 6, 8, 10, 12, 14, 16, 18, 19, 20, 21, 22, 24, 25, 27, 29, 31, 33, 35, 37, 38, 39, 41, 43, 45, 143] rfl
          refine hK27 _ _ ?_
          refine wp_seq_k (fun K28 hK28 => ?_)
          refine wp_seq_k (fun K29 hK29 => ?_)
          refine wp_plain [true, true, true, true, true, true, true, true, true, true, true, true, true, true, true, true, true, true, true, true, true, true, true, true, true, true, true, true, true, true, true, true, true, true, true, true, true, true, true, true, true, true, true, true, true, true, true, true, true, true, false, true, true, true, true, false, true, true, true] rfl rfl ?_
          refine s_move hE rfl rfl ?_; clear hE a; intro a hE
          refine s_len hE rfl Tryd.underlying35 (own_slice (hM.get 12 rfl)) rfl ?_; clear hE a; intro a hE
          refine s_bin hE rfl rfl bin_neq rfl ?_; clear hE a; intro a hE
          refine s_move hE rfl rfl ?_; clear hE a; intro a hE
          replace hE := hE.cast 215 rfl (show _ = Value.bool false from (congrArg Value.bool (by first | rfl | decide | simp)))
          refine g_yes hE rfl rfl ?_
          refine s_move hE rfl rfl ?_; clear hE a; intro a hE
          refine g_yes hE rfl rfl ?_
          obtain ⟨cx217, hx217⟩ := own_rd (hM.get 12 rfl)
          refine s_indexRd (j := 0) hE rfl hx217 rfl slt35 (by first | rfl | omega) (by decide) rfl ?_; clear hE a; intro a p217 hE hc217 hp217
          have hlj217 : 0 < ([3, 1] : List Nat).length := (by decide)
          have hok217 := ok31 _ (getD_mem (d := 0) hlj217)
          rw [flat_elem (d := 0) (fun x hx => (show (intC _).length = 1 from rfl)) hlj217] at hc217
          refine g_yes hE rfl rfl ?_
          replace hc217 : (cellsAt _ [.int .i64 (((([3, 1] : List Nat).getD 0 0) : Nat) : Int)]).holds _ := hc217
          refine s_loadAt1 hE rfl hc217 one3 (by intro X h; cases h) rfl ?_; clear hE a; intro a hE
          refine g_yes hE rfl rfl ?_
          refine s_bin hE rfl rfl bin_neq rfl ?_; clear hE a; intro a hE
          refine s_pickf hE rfl rfl rfl ?_; clear hE a; intro a hE
          refine s_move hE rfl rfl ?_; clear hE a; intro a hE
          replace hE := hE.cast 221 rfl (show _ = Value.bool false from (congrArg Value.bool (by first | rfl | decide | simp)))
          refine g_yes hE rfl rfl ?_
          refine s_move hE rfl rfl ?_; clear hE a; intro a hE
          refine g_yes hE rfl rfl ?_
          obtain ⟨cx223, hx223⟩ := own_rd (hM.get 12 rfl)
          refine s_indexRd (j := 1) hE rfl hx223 rfl slt35 (by first | rfl | omega) (by decide) rfl ?_; clear hE a; intro a p223 hE hc223 hp223
          have hlj223 : 1 < ([3, 1] : List Nat).length := (by decide)
          have hok223 := ok31 _ (getD_mem (d := 0) hlj223)
          rw [flat_elem (d := 0) (fun x hx => (show (intC _).length = 1 from rfl)) hlj223] at hc223
          refine g_yes hE rfl rfl ?_
          replace hc223 : (cellsAt _ [.int .i64 (((([3, 1] : List Nat).getD 1 0) : Nat) : Int)]).holds _ := hc223
          refine s_loadAt1 hE rfl hc223 one3 (by intro X h; cases h) rfl ?_; clear hE a; intro a hE
          refine g_yes hE rfl rfl ?_
          refine s_bin hE rfl rfl bin_neq rfl ?_; clear hE a; intro a hE
          refine s_pickf hE rfl rfl rfl ?_; clear hE a; intro a hE
          refine s_move hE rfl rfl ?_; clear hE a; intro a hE
          replace hE := hE.cast 227 rfl (show _ = Value.bool false from (congrArg Value.bool (by first | rfl | decide | simp)))
          refine g_yes hE rfl rfl ?_
          refine s_move hE rfl rfl ?_; clear hE a; intro a hE
          refine g_yes hE rfl rfl ?_
          refine s_bin hE rfl rfl bin_neq rfl ?_; clear hE a; intro a hE
          replace hE := hE.cast 229 rfl (show _ = Value.bool false from (congrArg Value.bool (by decide)))
          refine s_pickf hE rfl rfl rfl ?_; clear hE a; intro a hE
          refine s_move hE rfl rfl ?_; clear hE a; intro a hE
          refine g_yes hE rfl rfl ?_
          refine s_move hE rfl rfl ?_; clear hE a; intro a hE
          refine g_yes hE rfl rfl ?_
          refine s_len hE rfl Tryd.underlying35 (own_slice (hM.get 11 rfl)) rfl ?_; clear hE a; intro a hE
          refine g_yes hE rfl rfl ?_
          refine s_bin hE rfl rfl bin_neq rfl ?_; clear hE a; intro a hE
          refine s_pickf hE rfl rfl rfl ?_; clear hE a; intro a hE
          refine s_move hE rfl rfl ?_; clear hE a; intro a hE
          replace hE := hE.cast 236 rfl (show _ = Value.bool false from (congrArg Value.bool (by first | rfl | decide | simp)))
          refine g_yes hE rfl rfl ?_
          refine s_move hE rfl rfl ?_; clear hE a; intro a hE
          refine g_yes hE rfl rfl ?_
          refine s_bin hE rfl rfl bin_neq rfl ?_; clear hE a; intro a hE
          replace hE := hE.cast 238 rfl (show _ = Value.bool false from (congrArg Value.bool (by decide)))
          refine s_pickf hE rfl rfl rfl ?_; clear hE a; intro a hE
          refine s_move hE rfl rfl ?_; clear hE a; intro a hE
          refine g_yes hE rfl rfl ?_
          refine s_move hE rfl rfl ?_; clear hE a; intro a hE
          refine g_yes hE rfl rfl ?_
          refine s_bin hE rfl rfl bin_neq rfl ?_; clear hE a; intro a hE
          replace hE := hE.cast 242 rfl (show _ = Value.bool false from (congrArg Value.bool (by decide)))
          refine s_pickf hE rfl rfl rfl ?_; clear hE a; intro a hE
          refine s_move hE rfl rfl ?_; clear hE a; intro a hE
          refine g_yes hE rfl rfl ?_
          refine s_move hE rfl rfl ?_; clear hE a; intro a hE
          refine g_yes hE rfl rfl ?_
          refine s_len hE rfl Tryd.underlying35 (own_slice (hM.get 8 rfl)) rfl ?_; clear hE a; intro a hE
          refine g_yes hE rfl rfl ?_
          refine s_bin hE rfl rfl bin_neq rfl ?_; clear hE a; intro a hE
          refine s_pickf hE rfl rfl rfl ?_; clear hE a; intro a hE
          refine s_move hE rfl rfl ?_; clear hE a; intro a hE
          replace hE := hE.cast 249 rfl (show _ = Value.bool false from (congrArg Value.bool (by first | rfl | decide | simp)))
          refine g_yes hE rfl rfl ?_
          refine s_move hE rfl rfl ?_; clear hE a; intro a hE
          refine g_yes hE rfl rfl ?_
          obtain ⟨cx251, hx251⟩ := own_rd (hM.get 8 rfl)
          refine s_indexRd (j := 0) hE rfl hx251 rfl slt35 (by first | rfl | omega) (by decide) rfl ?_; clear hE a; intro a p251 hE hc251 hp251
          have hlj251 : 0 < ([3, 1] : List Nat).length := (by decide)
          have hok251 := ok31 _ (getD_mem (d := 0) hlj251)
          rw [flat_elem (d := 0) (fun x hx => (show (intC _).length = 1 from rfl)) hlj251] at hc251
          refine g_yes hE rfl rfl ?_
          replace hc251 : (cellsAt _ [.int .i64 (((([3, 1] : List Nat).getD 0 0) : Nat) : Int)]).holds _ := hc251
          refine s_loadAt1 hE rfl hc251 one3 (by intro X h; cases h) rfl ?_; clear hE a; intro a hE
          refine g_yes hE rfl rfl ?_
          refine s_bin hE rfl rfl bin_neq rfl ?_; clear hE a; intro a hE
          refine s_pickf hE rfl rfl rfl ?_; clear hE a; intro a hE
          refine s_move hE rfl rfl ?_; clear hE a; intro a hE
          replace hE := hE.cast 255 rfl (show _ = Value.bool false from (congrArg Value.bool (by first | rfl | decide | simp)))
          refine g_yes hE rfl rfl ?_
          refine s_move hE rfl rfl ?_; clear hE a; intro a hE
          refine g_yes hE rfl rfl ?_
          obtain ⟨cx257, hx257⟩ := own_rd (hM.get 8 rfl)
          refine s_indexRd (j := 1) hE rfl hx257 rfl slt35 (by first | rfl | omega) (by decide) rfl ?_; clear hE a; intro a p257 hE hc257 hp257
          have hlj257 : 1 < ([3, 1] : List Nat).length := (by decide)
          have hok257 := ok31 _ (getD_mem (d := 0) hlj257)
          rw [flat_elem (d := 0) (fun x hx => (show (intC _).length = 1 from rfl)) hlj257] at hc257
          refine g_yes hE rfl rfl ?_
          replace hc257 : (cellsAt _ [.int .i64 (((([3, 1] : List Nat).getD 1 0) : Nat) : Int)]).holds _ := hc257
          refine s_loadAt1 hE rfl hc257 one3 (by intro X h; cases h) rfl ?_; clear hE a; intro a hE
          refine g_yes hE rfl rfl ?_
          refine s_bin hE rfl rfl bin_neq rfl ?_; clear hE a; intro a hE
          refine s_pickf hE rfl rfl rfl ?_; clear hE a; intro a hE
          refine s_move hE rfl rfl ?_; clear hE a; intro a hE
          replace hE := hE.cast 261 rfl (show _ = Value.bool false from (congrArg Value.bool (by first | rfl | decide | simp)))
          refine g_yes hE rfl rfl ?_
          refine s_call hE rfl Tryd.call15 (tpathI_c 2 4 _) rfl ?_
          rintro e w62 ⟨v262, rfl, hN⟩
          refine ⟨_, rfl, trivial, ?_⟩; clear hE a; intro a hE
          replace hM : Mem _ _ w62 [_, _, _, _, _, _, _, _, _, _, _, _, _, _, _, _, _, _, _, _, _, _, _, _, _, _, _, _] := hM.call0 hN ⟨rfl, trivial⟩; clear hN
          replace hM := Mem.ownRowsEq (f := intC) (ls := pathZ 2 4) (ms := ([] : List Nat)) hM (pathZ_out2 (h := 2) (by decide))
          refine g_yes hE rfl rfl ?_
          refine s_len hE rfl Tryd.underlying35 (own_slice (hM.get 0 rfl)) rfl ?_; clear hE a; intro a hE
          refine g_yes hE rfl rfl ?_
          refine s_bin hE rfl rfl bin_neq rfl ?_; clear hE a; intro a hE
          refine s_pickf hE rfl rfl rfl ?_; clear hE a; intro a hE
          refine s_move hE rfl rfl ?_; clear hE a; intro a hE
          replace hE := hE.cast 266 rfl (show _ = Value.bool false from (congrArg Value.bool (by first | rfl | decide | simp)))
          refine g_yes hE rfl rfl ?_
          refine s_call hE rfl Tryd.call15 (tpathI_c 13 0 _) rfl ?_
          rintro e w63 ⟨v267, rfl, hN⟩
          refine ⟨_, rfl, trivial, ?_⟩; clear hE a; intro a hE
          replace hM : Mem _ _ w63 [_, _, _, _, _, _, _, _, _, _, _, _, _, _, _, _, _, _, _, _, _, _, _, _, _, _, _, _, _] := hM.call0 hN ⟨rfl, trivial⟩; clear hN
          replace hM := Mem.ownRowsEq (f := intC) (ls := pathZ 13 0) (ms := ([] : List Nat)) hM (pathZ_out1 (by decide))
          refine g_yes hE rfl rfl ?_
          refine s_len hE rfl Tryd.underlying35 (own_slice (hM.get 0 rfl)) rfl ?_; clear hE a; intro a hE
          refine g_yes hE rfl rfl ?_
          refine s_bin hE rfl rfl bin_neq rfl ?_; clear hE a; intro a hE
          refine s_pickf hE rfl rfl rfl ?_; clear hE a; intro a hE
          refine q_nil ?_
          replace hE : Env a 321 [(0, _), (1, _), (2, _), (3, _), (4, _), (5, _), (6, _), (8, _), (10, _), (12, _), (14, _), (16, _), (18, _), (27, _), (29, _), (31, _), (33, _), (35, _), (37, _), (38, _), (39, _), (41, _), (43, _), (45, _), (143, _), (270, _)] := hE.sel [0, 1, 2, 3, 4, 5, 6, 8, 10, 12, 14, 16, 18, 27, 29, 31, 33, 35, 37, 38, 39, 41, 43, 45, 143, 270] rfl
          refine hK29 _ _ ?_
          replace hE := hE.cast 270 rfl (show _ = Value.bool false from (congrArg Value.bool (by first | rfl | decide | simp)))
          refine wp_cond_false (hE.eval rfl) ?_
          refine wp_skip ?_
          refine hK28 _ _ ?_
          refine wp_seq_k (fun K30 hK30 => ?_)
          refine wp_plain [true, true, true, true, true, true, true, true, true, true, true, true, true, true, true, true, true, true, true, true, true, true, true, true, true, true, true, true, true, true, true, true, true, true, true, true, false, true, true, true, true, true, true, true, false, true, true, true, false, true, true] rfl rfl ?_
          refine s_move hE rfl rfl ?_; clear hE a; intro a hE
          refine s_bin hE rfl rfl bin_eql rfl ?_; clear hE a; intro a hE
          replace hE := hE.cast 272 rfl (show _ = Value.bool true from (congrArg Value.bool (by decide)))
          refine s_move hE rfl rfl ?_; clear hE a; intro a hE
          refine g_yes hE rfl rfl ?_
          refine s_move hE rfl rfl ?_; clear hE a; intro a hE
          refine g_yes hE rfl rfl ?_
          refine s_bin hE rfl rfl bin_eql rfl ?_; clear hE a; intro a hE
          replace hE := hE.cast 275 rfl (show _ = Value.bool true from (congrArg Value.bool (by decide)))
          refine s_pickt hE rfl rfl rfl ?_; clear hE a; intro a hE
          refine s_move hE rfl rfl ?_; clear hE a; intro a hE
          refine g_yes hE rfl rfl ?_
          refine s_move hE rfl rfl ?_; clear hE a; intro a hE
          refine g_yes hE rfl rfl ?_
          refine s_bin hE rfl rfl bin_eql rfl ?_; clear hE a; intro a hE
          replace hE := hE.cast 279 rfl (show _ = Value.bool true from (congrArg Value.bool (by decide)))
          refine s_pickt hE rfl rfl rfl ?_; clear hE a; intro a hE
          refine s_move hE rfl rfl ?_; clear hE a; intro a hE
          refine g_yes hE rfl rfl ?_
          refine s_move hE rfl rfl ?_; clear hE a; intro a hE
          refine g_yes hE rfl rfl ?_
          refine s_bin hE rfl rfl bin_eql rfl ?_; clear hE a; intro a hE
          replace hE := hE.cast 283 rfl (show _ = Value.bool true from (congrArg Value.bool (by decide)))
          refine s_pickt hE rfl rfl rfl ?_; clear hE a; intro a hE
          refine s_move hE rfl rfl ?_; clear hE a; intro a hE
          refine g_yes hE rfl rfl ?_
          refine s_move hE rfl rfl ?_; clear hE a; intro a hE
          refine g_yes hE rfl rfl ?_
          refine s_bin hE rfl rfl bin_eql rfl ?_; clear hE a; intro a hE
          replace hE := hE.cast 287 rfl (show _ = Value.bool true from (congrArg Value.bool (by decide)))
          refine s_pickt hE rfl rfl rfl ?_; clear hE a; intro a hE
          refine s_move hE rfl rfl ?_; clear hE a; intro a hE
          refine g_yes hE rfl rfl ?_
          refine s_move hE rfl rfl ?_; clear hE a; intro a hE
          refine g_yes hE rfl rfl ?_
          refine s_bin hE rfl rfl bin_eql rfl ?_; clear hE a; intro a hE
          replace hE := hE.cast 291 rfl (show _ = Value.bool true from (congrArg Value.bool (by decide)))
          refine s_pickt hE rfl rfl rfl ?_; clear hE a; intro a hE
          refine s_move hE rfl rfl ?_; clear hE a; intro a hE
          refine g_yes hE rfl rfl ?_
          refine s_move hE rfl rfl ?_; clear hE a; intro a hE
          refine g_yes hE rfl rfl ?_
          refine s_bin hE rfl rfl bin_eql rfl ?_; clear hE a; intro a hE
          replace hE := hE.cast 295 rfl (show _ = Value.bool true from (congrArg Value.bool (by decide)))
          refine s_pickt hE rfl rfl rfl ?_; clear hE a; intro a hE
          refine s_move hE rfl rfl ?_; clear hE a; intro a hE
          refine g_yes hE rfl rfl ?_
          refine s_move hE rfl rfl ?_; clear hE a; intro a hE
          refine g_yes hE rfl rfl ?_
          refine s_bin hE rfl rfl bin_eql rfl ?_; clear hE a; intro a hE
          replace hE := hE.cast 299 rfl (show _ = Value.bool true from (congrArg Value.bool (by decide)))
          refine s_pickt hE rfl rfl rfl ?_; clear hE a; intro a hE
          refine s_move hE rfl rfl ?_; clear hE a; intro a hE
          refine g_yes hE rfl rfl ?_
          refine s_move hE rfl rfl ?_; clear hE a; intro a hE
          refine g_yes hE rfl rfl ?_
          refine s_bin hE rfl rfl bin_eql rfl ?_; clear hE a; intro a hE
          replace hE := hE.cast 303 rfl (show _ = Value.bool true from (congrArg Value.bool (by decide)))
          refine s_pickt hE rfl rfl rfl ?_; clear hE a; intro a hE
          refine s_move hE rfl rfl ?_; clear hE a; intro a hE
          refine g_yes hE rfl rfl ?_
          refine s_move hE rfl rfl ?_; clear hE a; intro a hE
          refine g_yes hE rfl rfl ?_
          refine s_call hE rfl Tryd.call12 (ttop_nil _) rfl ?_
          rintro e w64 ⟨rfl, hN⟩
          refine ⟨_, rfl, trivial, ?_⟩; clear hE a; intro a hE
          replace hM : Mem _ _ w64 [_, _, _, _, _, _, _, _, _, _, _, _, _, _, _, _, _, _, _, _, _, _, _, _, _, _, _, _, _] := hM.call0 hN trivial; clear hN
          refine g_yes hE rfl rfl ?_
          refine s_build (r := .agg (bv (List.replicate 32 (0 : UInt8))).toArray) _ hE rfl (fun w => by kernel_rfl) rfl ?_; clear hE a; intro a hE
          refine g_yes hE rfl rfl ?_
          refine s_bin hE rfl rfl (eqa34 List.length_replicate (by first | (simp; done) | (simp [*]; done) | (simp; omega))).1 rfl ?_; clear hE a; intro a hE
          refine s_pickt hE rfl rfl rfl ?_; clear hE a; intro a hE
          refine s_move hE rfl rfl ?_; clear hE a; intro a hE
          replace hE := hE.cast 311 rfl (show _ = Value.bool true from (congrArg Value.bool (by first | rfl | simp)))
          refine g_yes hE rfl rfl ?_
          refine s_loadN hE rfl (hM.get 27 rfl) row23 rfl (by intro X h; cases h) rfl ?_; clear hE a; intro a hE
          refine g_yes hE rfl rfl ?_
          refine s_loadN hE rfl (hM.get 26 rfl) row34 rfl (by intro X h; cases h) rfl ?_; clear hE a; intro a hE
          refine g_yes hE rfl rfl ?_
          refine s_loadN hE rfl (hM.get 26 rfl) row34 rfl (by intro X h; cases h) rfl ?_; clear hE a; intro a hE
          refine g_yes hE rfl rfl ?_
          refine s_call hE rfl Tryd.call16 (tcheckI_c [9, 0, 0, 0, 0, 0, 0, 0, 0, 0, 0, 0, 0, 0, 0, 0, 0, 0, 0, 0, 0, 0, 0, 0, 0, 0, 0, 0, 0, 0, 0, 0] 0 [1, 0, 0, 0, 0, 0, 0, 0, 0, 0, 0, 0, 0, 0, 0, 0, 0, 0, 0, 0, 0, 0, 0, 0, 0, 0, 0, 0, 0, 0, 0, 0] _ ([] : List (List UInt8)) _ [1, 0, 0, 0, 0, 0, 0, 0, 0, 0, 0, 0, 0, 0, 0, 0, 0, 0, 0, 0, 0, 0, 0, 0, 0, 0, 0, 0, 0, 0, 0, 0] _ (hM.get 28 rfl) (by first | (simp; done) | (simp [*]; done) | (simp; omega)) (by first | (simp; done) | (simp [*]; done) | (simp; omega)) (rd_nilR 64 _) ok_nil (by first | (simp; done) | (simp [*]; done) | (simp; omega))) rfl ?_
          rintro e w65 ⟨rfl, hN⟩
          refine ⟨_, rfl, trivial, ?_⟩; clear hE a; intro a hE
          replace hM : Mem _ _ w65 [_, _, _, _, _, _, _, _, _, _, _, _, _, _, _, _, _, _, _, _, _, _, _, _, _, _, _, _, _] := hM.call0 hN trivial; clear hN
          refine g_yes hE rfl rfl ?_
          refine s_not hE rfl rfl ?_; clear hE a; intro a hE
          refine s_pickt hE rfl rfl rfl ?_; clear hE a; intro a hE
          refine s_move hE rfl rfl ?_; clear hE a; intro a hE
          replace hE := hE.cast 318 rfl (show _ = Value.bool true from (congrArg Value.bool (by rw [chkZ_out1 (by decide)]; rfl)))
          refine g_yes hE rfl rfl ?_
          refine s_call hE rfl Tryd.call9 (works_c  _ (hM.get 28 rfl)) rfl ?_
          rintro e w66 ⟨rfl, hN⟩
          refine ⟨_, rfl, trivial, ?_⟩; clear hE a; intro a hE
          replace hM : Mem _ _ w66 [_, _, _, _, _, _, _, _, _, _, _, _, _, _, _, _, _, _, _, _, _, _, _, _, _, _, _, _, _] := hM.call0 hN trivial; clear hN
          refine s_pickt hE rfl rfl rfl ?_; clear hE a; intro a hE
          refine s_assign hE rfl rfl ?_; clear hE a; intro a hE
          refine q_nil ?_
          replace hE : Env a 321 [(0, _), (1, _), (2, _), (3, _), (4, _), (5, _), (6, _), (8, _), (10, _), (12, _), (14, _), (16, _), (18, _), (38, _), (39, _), (143, _), (270, _)] := hE.sel [0, 1, 2, 3, 4, 5, 6, 8, 10, 12, 14, 16, 18, 38, 39, 143, 270] rfl
          refine hK30 _ _ ?_
          refine wp_ret ?_
          refine f_ret1 hE rfl rfl ?_
          exact ⟨(by first | rfl | (simp; done)), hM.pick [] rfl⟩
        trivial
      trivial
    trivial
  refine o_or rfl ?_ ?_
  · refine s_alloc [32] hE hM zero34 rfl rfl ?_; clear hE a; intro a b18 w29 hE hM'
    clear hM; have hM := hM'; clear hM'
    refine q_nil (q_nx ?_)
    refine o_re ?_
    refine o_fl rfl ?_
    refine q_nil (q_nx ?_)
    refine o_fl rfl ?_
    refine q_nil (q_nx ?_)
    refine o_or rfl ?_ ?_
    · refine s_call hE rfl Tryd.call28 (bjoin_c (nd [9, 0, 0, 0, 0, 0, 0, 0, 0, 0, 0, 0, 0, 0, 0, 0, 0, 0, 0, 0, 0, 0, 0, 0, 0, 0, 0, 0, 0, 0, 0, 0] 2 ([1, 0, 0, 0, 0, 0, 0, 0, 0, 0, 0, 0, 0, 0, 0, 0, 0, 0, 0, 0, 0, 0, 0, 0, 0, 0, 0, 0, 0, 0, 0, 0] ++ [2, 0, 0, 0, 0, 0, 0, 0, 0, 0, 0, 0, 0, 0, 0, 0, 0, 0, 0, 0, 0, 0, 0, 0, 0, 0, 0, 0, 0, 0, 0, 0])) (nd [9, 0, 0, 0, 0, 0, 0, 0, 0, 0, 0, 0, 0, 0, 0, 0, 0, 0, 0, 0, 0, 0, 0, 0, 0, 0, 0, 0, 0, 0, 0, 0] 3 ([3, 0, 0, 0, 0, 0, 0, 0, 0, 0, 0, 0, 0, 0, 0, 0, 0, 0, 0, 0, 0, 0, 0, 0, 0, 0, 0, 0, 0, 0, 0, 0] ++ List.replicate 32 (0 : UInt8))) _ (nd_len ..) (nd_len ..)) rfl ?_
      rintro e w30 ⟨rfl, hN⟩
      refine ⟨_, rfl, hN.sta0 _, ?_⟩; clear hE a; intro a hE
      replace hM : Mem _ _ w30 [_, _, _, _, _, _, _, _, _, _, _, _, _, _, _] := hM.call0 hN trivial; clear hN
      refine q_nil (q_nx ?_)
      refine o_cut (fun _ => True) ?_
      refine o_re ?_
      refine o_fl rfl ?_
      refine q_nil (q_nx ?_)
      refine o_fl rfl ?_
      refine q_nil (q_nx ?_)
      refine o_or rfl ?_ ?_
      · refine s_call hE rfl Tryd.call17 (tnode_c [9, 0, 0, 0, 0, 0, 0, 0, 0, 0, 0, 0, 0, 0, 0, 0, 0, 0, 0, 0, 0, 0, 0, 0, 0, 0, 0, 0, 0, 0, 0, 0] ((1 : Nat) : Int) ((nd [9, 0, 0, 0, 0, 0, 0, 0, 0, 0, 0, 0, 0, 0, 0, 0, 0, 0, 0, 0, 0, 0, 0, 0, 0, 0, 0, 0, 0, 0, 0, 0] 2 ([1, 0, 0, 0, 0, 0, 0, 0, 0, 0, 0, 0, 0, 0, 0, 0, 0, 0, 0, 0, 0, 0, 0, 0, 0, 0, 0, 0, 0, 0, 0, 0] ++ [2, 0, 0, 0, 0, 0, 0, 0, 0, 0, 0, 0, 0, 0, 0, 0, 0, 0, 0, 0, 0, 0, 0, 0, 0, 0, 0, 0, 0, 0, 0, 0])) ++ (nd [9, 0, 0, 0, 0, 0, 0, 0, 0, 0, 0, 0, 0, 0, 0, 0, 0, 0, 0, 0, 0, 0, 0, 0, 0, 0, 0, 0, 0, 0, 0, 0] 3 ([3, 0, 0, 0, 0, 0, 0, 0, 0, 0, 0, 0, 0, 0, 0, 0, 0, 0, 0, 0, 0, 0, 0, 0, 0, 0, 0, 0, 0, 0, 0, 0] ++ List.replicate 32 (0 : UInt8)))) _ (hM.get 14 rfl) (by first | (simp; done) | (simp [*]; done) | (simp; omega)) (List.length_append.trans (congr (congrArg HAdd.hAdd (nd_len ..)) (nd_len ..)))) rfl ?_
        rintro e w31 ⟨rfl, hN⟩
        refine ⟨_, rfl, hN.sta0 _, ?_⟩; clear hE a; intro a hE
        replace hM : Mem _ _ w31 [_, _, _, _, _, _, _, _, _, _, _, _, _, _, _] := hM.call0 hN trivial; clear hN
        replace hE := hE.cast 89 rfl (show _ = Value.agg (bv (nd [9, 0, 0, 0, 0, 0, 0, 0, 0, 0, 0, 0, 0, 0, 0, 0, 0, 0, 0, 0, 0, 0, 0, 0, 0, 0, 0, 0, 0, 0, 0, 0] 1 ((nd [9, 0, 0, 0, 0, 0, 0, 0, 0, 0, 0, 0, 0, 0, 0, 0, 0, 0, 0, 0, 0, 0, 0, 0, 0, 0, 0, 0, 0, 0, 0, 0] 2 ([1, 0, 0, 0, 0, 0, 0, 0, 0, 0, 0, 0, 0, 0, 0, 0, 0, 0, 0, 0, 0, 0, 0, 0, 0, 0, 0, 0, 0, 0, 0, 0] ++ [2, 0, 0, 0, 0, 0, 0, 0, 0, 0, 0, 0, 0, 0, 0, 0, 0, 0, 0, 0, 0, 0, 0, 0, 0, 0, 0, 0, 0, 0, 0, 0])) ++ (nd [9, 0, 0, 0, 0, 0, 0, 0, 0, 0, 0, 0, 0, 0, 0, 0, 0, 0, 0, 0, 0, 0, 0, 0, 0, 0, 0, 0, 0, 0, 0, 0] 3 ([3, 0, 0, 0, 0, 0, 0, 0, 0, 0, 0, 0, 0, 0, 0, 0, 0, 0, 0, 0, 0, 0, 0, 0, 0, 0, 0, 0, 0, 0, 0, 0] ++ List.replicate 32 (0 : UInt8)))))).toArray from rfl)
        refine q_nil (q_nx ?_)
        refine o_re ?_
        refine o_fl rfl ?_
        refine q_nil (q_nx ?_)
        refine o_fl rfl ?_
        refine q_nil (q_nx ?_)
        refine o_weak (fun b => b = b18) (fun _ _ => trivial) ?_
        refine o_or rfl ?_ ?_
        · refine s_storeSeg 0 hE rfl rfl hM rfl sz34 ((bv_length _).trans (nd_len ..)) (bv_one _) rfl ((bv_length _).trans (by first | (simp; done) | (simp [*]; done) | (simp; omega))) rfl (by intro X h; cases h; rfl) ?_; intro w32 hM'; clear hM; have hM := hM'; clear hM'
          simp only [List.set_cons_zero, List.set_cons_succ] at hM
          refine q_nil (q_nx ?_)
          refine o_cut (fun _ => True) ?_
          refine o_re ?_
          refine o_weak (fun _ => False) (fun _ _ => trivial) ?_
          refine o_leaf rfl rfl ?_
          refine q_nil (q_ph (q_nil ?_))
          replace hE : Env a 321 [(0, _), (1, _), (2, _), (3, _), (4, _), (5, _), (6, _), (7, _), (8, _), (9, _), (10, _), (11, _), (12, _), (13, _), (14, _), (15, _), (16, _), (17, _), (18, _)] := hE.sel [0, 1, 2, 3, 4, 5, 6, 7, 8, 9, 10, 11, 12, 13, 14, 15, 16, 17, 18] rfl
          refine hK10 _ _ ?_
          refine wp_seq_k (fun K11 hK11 => ?_)
          refine wp_seq_k (fun K12 hK12 => ?_)
          refine wp_drawnM hM (by kernel_rfl) (fun _ => False) [(0, true), (1, true), (2, true), (3, true), (4, true), (5, true), (6, true), (7, true), (8, true), (9, true), (10, true), (11, true), (12, true), (13, true), (14, true), (15, true), (16, true), (17, true), (18, true), (19, true), (20, true), (21, true), (22, true), (23, true), (24, true), (25, false), (26, false), (27, true), (28, true), (29, true), (30, true), (31, true), (32, true), (33, true), (34, true), (35, true), (36, true), (37, false), (38, true), (39, true), (40, true), (41, true), (42, true), (43, true), (44, true), (45, true), (46, true), (47, true), (48, true), (49, true), (51, true), (50, false), (52, true), (53, true)] [(25, [(26, 25), (27, 26), (28, 27), (29, 26), (30, 29), (31, 29), (32, 29), (33, 32), (34, 33), (35, 33), (36, 33), (37, 33), (38, 33), (39, 33), (40, 37), (41, 40), (42, 40), (43, 40), (44, 40), (45, 44), (46, 44), (47, 44), (48, 44), (49, 48), (51, 48), (50, 48), (52, 48), (53, 48)]), (26, [(27, 26), (28, 27), (29, 26), (30, 29), (31, 29), (32, 29), (33, 32), (34, 33), (35, 33), (36, 33), (37, 33), (38, 33), (39, 33), (40, 37), (41, 40), (42, 40), (43, 40), (44, 40), (45, 44), (46, 44), (47, 44), (48, 44), (49, 48), (51, 48), (50, 48), (52, 48), (53, 48)]), (37, [(38, 37), (39, 38), (40, 37), (41, 40), (42, 40), (43, 40), (44, 40), (45, 44), (46, 44), (47, 44), (48, 44), (49, 48), (51, 48), (50, 48), (52, 48), (53, 48)]), (50, [(52, 50), (53, 52)])] (by kernel_rfl) rfl ?_
          intro w33 hM' hww33; clear hM; have hM := hM'; clear hM'
          refine s_move hE rfl rfl ?_; clear hE a; intro a hE
          refine s_bin hE rfl rfl bin_neq rfl ?_; clear hE a; intro a hE
          replace hE := hE.cast 91 rfl (show _ = Value.bool false from (congrArg Value.bool (by decide)))
          refine s_move hE rfl rfl ?_; clear hE a; intro a hE
          refine g_yes hE rfl rfl ?_
          refine s_loadN hE rfl (hM.get 5 rfl) row34 rfl (by intro X h; cases h; simp) rfl ?_; clear hE a; intro a hE
          refine g_yes hE rfl rfl ?_
          refine s_loadN hE rfl (hM.get 12 rfl) row34 rfl (by intro X h; cases h; simp) rfl ?_; clear hE a; intro a hE
          refine g_yes hE rfl rfl ?_
          refine s_bin hE rfl rfl (eqa34 rfl (by first | (simp; done) | (simp [*]; done) | (simp; omega))).2 rfl ?_; clear hE a; intro a hE
          refine s_pickf hE rfl rfl rfl ?_; clear hE a; intro a hE
          refine s_move hE rfl rfl ?_; clear hE a; intro a hE
          replace hE := hE.cast 97 rfl (show _ = Value.bool false from (congrArg Value.bool (by first | rfl | simp)))
          refine g_yes hE rfl rfl ?_
          refine s_move hE rfl rfl ?_; clear hE a; intro a hE
          refine g_yes hE rfl rfl ?_
          refine s_bin hE rfl rfl bin_neq rfl ?_; clear hE a; intro a hE
          replace hE := hE.cast 99 rfl (show _ = Value.bool false from (congrArg Value.bool (by decide)))
          refine s_pickf hE rfl rfl rfl ?_; clear hE a; intro a hE
          refine s_move hE rfl rfl ?_; clear hE a; intro a hE
          refine g_yes hE rfl rfl ?_
          refine s_loadN hE rfl (hM.get 4 rfl) row34 rfl (by intro X h; cases h; simp) rfl ?_; clear hE a; intro a hE
          refine g_yes hE rfl rfl ?_
          refine s_build (r := .agg (bv (List.replicate 32 (0 : UInt8))).toArray) _ hE rfl (fun w => by kernel_rfl) rfl ?_; clear hE a; intro a hE
          refine g_yes hE rfl rfl ?_
          refine s_bin hE rfl rfl (eqa34 List.length_replicate (by first | (simp; done) | (simp [*]; done) | (simp; omega))).2 rfl ?_; clear hE a; intro a hE
          refine s_pickf hE rfl rfl rfl ?_; clear hE a; intro a hE
          refine s_move hE rfl rfl ?_; clear hE a; intro a hE
          replace hE := hE.cast 106 rfl (show _ = Value.bool false from (congrArg Value.bool (by first | rfl | simp)))
          refine g_yes hE rfl rfl ?_
          refine s_move hE rfl rfl ?_; clear hE a; intro a hE
          refine g_yes hE rfl rfl ?_
          refine s_bin hE rfl rfl bin_neq rfl ?_; clear hE a; intro a hE
          replace hE := hE.cast 108 rfl (show _ = Value.bool false from (congrArg Value.bool (by decide)))
          refine s_pickf hE rfl rfl rfl ?_; clear hE a; intro a hE
          refine s_move hE rfl rfl ?_; clear hE a; intro a hE
          refine g_yes hE rfl rfl ?_
          refine s_loadN hE rfl (hM.get 3 rfl) row34 rfl (by intro X h; cases h; simp) rfl ?_; clear hE a; intro a hE
          refine g_yes hE rfl rfl ?_
          refine s_loadN hE rfl (hM.get 13 rfl) row23 rfl (by intro X h; cases h; simp) rfl ?_; clear hE a; intro a hE
          refine g_yes hE rfl rfl ?_
          refine s_loadN hE rfl (hM.get 12 rfl) row34 rfl (by intro X h; cases h; simp) rfl ?_; clear hE a; intro a hE
          refine g_yes hE rfl rfl ?_
          refine s_loadN hE rfl (hM.get 11 rfl) row34 rfl (by intro X h; cases h; simp) rfl ?_; clear hE a; intro a hE
          refine g_yes hE rfl rfl ?_
          have hj115_0 : [1, 0, 0, 0, 0, 0, 0, 0, 0, 0, 0, 0, 0, 0, 0, 0, 0, 0, 0, 0, 0, 0, 0, 0, 0, 0, 0, 0, 0, 0, 0, 0].length = 32 := (by first | rfl | (simp; done) | (simp [*]; done) | (simp; omega))
          have hj115_1 : [2, 0, 0, 0, 0, 0, 0, 0, 0, 0, 0, 0, 0, 0, 0, 0, 0, 0, 0, 0, 0, 0, 0, 0, 0, 0, 0, 0, 0, 0, 0, 0].length = 32 := (by first | rfl | (simp; done) | (simp [*]; done) | (simp; omega))
          refine s_call hE rfl Tryd.call28 (bjoin_c [1, 0, 0, 0, 0, 0, 0, 0, 0, 0, 0, 0, 0, 0, 0, 0, 0, 0, 0, 0, 0, 0, 0, 0, 0, 0, 0, 0, 0, 0, 0, 0] [2, 0, 0, 0, 0, 0, 0, 0, 0, 0, 0, 0, 0, 0, 0, 0, 0, 0, 0, 0, 0, 0, 0, 0, 0, 0, 0, 0, 0, 0, 0, 0] _ hj115_0 hj115_1) rfl ?_
          rintro e w34 ⟨rfl, hN⟩
          refine ⟨_, rfl, hN.sta0 _, ?_⟩; clear hE a; intro a hE
          replace hM : Mem _ _ w34 [_, _, _, _, _, _, _, _, _, _, _, _, _, _, _] := hM.call0 hN trivial; clear hN
          refine g_yes hE rfl rfl ?_
          refine s_call hE rfl Tryd.call17 (tnode_c [9, 0, 0, 0, 0, 0, 0, 0, 0, 0, 0, 0, 0, 0, 0, 0, 0, 0, 0, 0, 0, 0, 0, 0, 0, 0, 0, 0, 0, 0, 0, 0] ((2 : Nat) : Int) ([1, 0, 0, 0, 0, 0, 0, 0, 0, 0, 0, 0, 0, 0, 0, 0, 0, 0, 0, 0, 0, 0, 0, 0, 0, 0, 0, 0, 0, 0, 0, 0] ++ [2, 0, 0, 0, 0, 0, 0, 0, 0, 0, 0, 0, 0, 0, 0, 0, 0, 0, 0, 0, 0, 0, 0, 0, 0, 0, 0, 0, 0, 0, 0, 0]) _ (hM.get 14 rfl) (by first | (simp; done) | (simp [*]; done) | (simp; omega)) (List.length_append.trans (congr (congrArg HAdd.hAdd hj115_0) hj115_1))) rfl ?_
          rintro e w35 ⟨rfl, hN⟩
          refine ⟨_, rfl, hN.sta0 _, ?_⟩; clear hE a; intro a hE
          replace hM : Mem _ _ w35 [_, _, _, _, _, _, _, _, _, _, _, _, _, _, _] := hM.call0 hN trivial; clear hN
          replace hE := hE.cast 116 rfl (show _ = Value.agg (bv (nd [9, 0, 0, 0, 0, 0, 0, 0, 0, 0, 0, 0, 0, 0, 0, 0, 0, 0, 0, 0, 0, 0, 0, 0, 0, 0, 0, 0, 0, 0, 0, 0] 2 ([1, 0, 0, 0, 0, 0, 0, 0, 0, 0, 0, 0, 0, 0, 0, 0, 0, 0, 0, 0, 0, 0, 0, 0, 0, 0, 0, 0, 0, 0, 0, 0] ++ [2, 0, 0, 0, 0, 0, 0, 0, 0, 0, 0, 0, 0, 0, 0, 0, 0, 0, 0, 0, 0, 0, 0, 0, 0, 0, 0, 0, 0, 0, 0, 0]))).toArray from rfl)
          refine g_yes hE rfl rfl ?_
          refine s_bin hE rfl rfl (eqa34 (nd_len ..) (nd_len ..)).2 rfl ?_; clear hE a; intro a hE
          refine s_pickf hE rfl rfl rfl ?_; clear hE a; intro a hE
          refine s_move hE rfl rfl ?_; clear hE a; intro a hE
          replace hE := hE.cast 119 rfl (show _ = Value.bool false from (congrArg Value.bool (by first | rfl | simp)))
          refine g_yes hE rfl rfl ?_
          refine s_move hE rfl rfl ?_; clear hE a; intro a hE
          refine g_yes hE rfl rfl ?_
          refine s_bin hE rfl rfl bin_neq rfl ?_; clear hE a; intro a hE
          replace hE := hE.cast 121 rfl (show _ = Value.bool false from (congrArg Value.bool (by decide)))
          refine s_pickf hE rfl rfl rfl ?_; clear hE a; intro a hE
          refine s_move hE rfl rfl ?_; clear hE a; intro a hE
          refine g_yes hE rfl rfl ?_
          refine s_loadN hE rfl (hM.get 2 rfl) row52 rfl (by intro X h; cases h; simp) rfl ?_; clear hE a; intro a hE
          refine g_yes hE rfl rfl ?_
          refine s_loadN hE rfl (hM.get 10 rfl) row34 rfl (by intro X h; cases h; simp) rfl ?_; clear hE a; intro a hE
          refine g_yes hE rfl rfl ?_
          refine s_build (r := .agg (bv (List.replicate 32 (0 : UInt8))).toArray) _ hE rfl (fun w => by kernel_rfl) rfl ?_; clear hE a; intro a hE
          refine g_yes hE rfl rfl ?_
          have hj127_0 : [3, 0, 0, 0, 0, 0, 0, 0, 0, 0, 0, 0, 0, 0, 0, 0, 0, 0, 0, 0, 0, 0, 0, 0, 0, 0, 0, 0, 0, 0, 0, 0].length = 32 := (by first | rfl | (simp; done) | (simp [*]; done) | (simp; omega))
          have hj127_1 : (List.replicate 32 (0 : UInt8)).length = 32 := (by first | rfl | (simp; done) | (simp [*]; done) | (simp; omega))
          refine s_call hE rfl Tryd.call28 (bjoin_c [3, 0, 0, 0, 0, 0, 0, 0, 0, 0, 0, 0, 0, 0, 0, 0, 0, 0, 0, 0, 0, 0, 0, 0, 0, 0, 0, 0, 0, 0, 0, 0] (List.replicate 32 (0 : UInt8)) _ hj127_0 hj127_1) rfl ?_
          rintro e w36 ⟨rfl, hN⟩
          refine ⟨_, rfl, hN.sta0 _, ?_⟩; clear hE a; intro a hE
          replace hM : Mem _ _ w36 [_, _, _, _, _, _, _, _, _, _, _, _, _, _, _] := hM.call0 hN trivial; clear hN
          refine g_yes hE rfl rfl ?_
          refine s_bin hE rfl rfl (eqa52 rfl (List.length_append.trans (congr (congrArg HAdd.hAdd hj127_0) hj127_1))).2 rfl ?_; clear hE a; intro a hE
          refine s_pickf hE rfl rfl rfl ?_; clear hE a; intro a hE
          refine s_move hE rfl rfl ?_; clear hE a; intro a hE
          replace hE := hE.cast 130 rfl (show _ = Value.bool false from (congrArg Value.bool (by first | rfl | simp)))
          refine g_yes hE rfl rfl ?_
          refine s_move hE rfl rfl ?_; clear hE a; intro a hE
          refine g_yes hE rfl rfl ?_
          refine s_bin hE rfl rfl bin_neq rfl ?_; clear hE a; intro a hE
          replace hE := hE.cast 132 rfl (show _ = Value.bool false from (congrArg Value.bool (by decide)))
          refine s_pickf hE rfl rfl rfl ?_; clear hE a; intro a hE
          refine s_move hE rfl rfl ?_; clear hE a; intro a hE
          refine g_yes hE rfl rfl ?_
          refine s_move hE rfl rfl ?_; clear hE a; intro a hE
          refine g_yes hE rfl rfl ?_
          refine s_bin hE rfl rfl bin_neq rfl ?_; clear hE a; intro a hE
          replace hE := hE.cast 136 rfl (show _ = Value.bool false from (congrArg Value.bool (by decide)))
          refine s_pickf hE rfl rfl rfl ?_; clear hE a; intro a hE
          refine s_move hE rfl rfl ?_; clear hE a; intro a hE
          refine g_yes hE rfl rfl ?_
          refine s_move hE rfl rfl ?_; clear hE a; intro a hE
          refine g_yes hE rfl rfl ?_
          refine s_loadN hE rfl (hM.get 0 rfl) row34 rfl (by intro X h; cases h; simp) rfl ?_; clear hE a; intro a hE
          refine g_yes hE rfl rfl ?_
          obtain ⟨cs17, hs17⟩ := own_rd (hM.get 7 rfl)
          refine s_call hE rfl Tryd.call12 (ttop_c b57 2 [9, 0, 0, 0, 0, 0, 0, 0, 0, 0, 0, 0, 0, 0, 0, 0, 0, 0, 0, 0, 0, 0, 0, 0, 0, 0, 0, 0, 0, 0, 0, 0] u57 (allT [9, 0, 0, 0, 0, 0, 0, 0, 0, 0, 0, 0, 0, 0, 0, 0, 0, 0, 0, 0, 0, 0, 0, 0, 0, 0, 0, 0, 0, 0, 0, 0] (2 ^ 2) (padL (2 ^ 2) ([[1, 0, 0, 0, 0, 0, 0, 0, 0, 0, 0, 0, 0, 0, 0, 0, 0, 0, 0, 0, 0, 0, 0, 0, 0, 0, 0, 0, 0, 0, 0, 0], [2, 0, 0, 0, 0, 0, 0, 0, 0, 0, 0, 0, 0, 0, 0, 0, 0, 0, 0, 0, 0, 0, 0, 0, 0, 0, 0, 0, 0, 0, 0, 0], [3, 0, 0, 0, 0, 0, 0, 0, 0, 0, 0, 0, 0, 0, 0, 0, 0, 0, 0, 0, 0, 0, 0, 0, 0, 0, 0, 0, 0, 0, 0, 0]] : List (List UInt8)))) cs17 _ (hM.get 6 rfl) hs17 (by first | (simp; done) | (simp [*]; done) | (simp; omega)) (OkTs.all (OkTs.pad hrl56)) (by first | decide | omega) (allT_len (Nat.le_of_eq (padL_length (by first | decide | simp))))) rfl ?_
          rintro e w37 ⟨rfl, hN⟩
          refine ⟨_, rfl, hN.sta0 _, ?_⟩; clear hE a; intro a hE
          replace hM : Mem _ _ w37 [_, _, _, _, _, _, _, _, _, _, _, _, _, _, _] := hM.call0 hN trivial; clear hN
          refine g_yes hE rfl rfl ?_
          refine s_bin hE rfl rfl (eqa34 (OkTs.get (OkTs.all (OkTs.pad hrl56)) 1) (nd_len ..)).2 rfl ?_; clear hE a; intro a hE
          refine s_pickf hE rfl rfl rfl ?_; clear hE a; intro a hE
          refine q_nil ?_
          replace hE : Env a 321 [(0, _), (1, _), (2, _), (3, _), (4, _), (5, _), (6, _), (8, _), (10, _), (12, _), (14, _), (16, _), (18, _), (143, _)] := hE.sel [0, 1, 2, 3, 4, 5, 6, 8, 10, 12, 14, 16, 18, 143] rfl
          refine hK12 _ _ ?_
          replace hE := hE.cast 143 rfl (show _ = Value.bool false from (congrArg Value.bool (by rw [ktop]; simp)))
          refine wp_cond_false (hE.eval rfl) ?_
          refine wp_skip ?_
          refine hK11 _ _ ?_
          refine wp_seq_k (fun K13 hK13 => ?_)
          refine wp_plain [true, true, false, true, true, true, true, true] rfl rfl ?_
          refine s_move hE rfl rfl ?_; clear hE a; intro a hE
          refine s_loadN hE rfl (hM.get 9 rfl) row34 rfl (by intro X h; cases h) rfl ?_; clear hE a; intro a hE
          replace hM : Mem _ _ w37 [_, _, _, _, _, _, _, _, _, _, _, _, _, _, _] := hM.pick [7, 0, 1, 2, 3, 4, 5, 6, 8, 9, 10, 11, 12, 13, 14] rfl
          refine s_call hE rfl Tryd.call11 (tsetI_c b57 2 [9, 0, 0, 0, 0, 0, 0, 0, 0, 0, 0, 0, 0, 0, 0, 0, 0, 0, 0, 0, 0, 0, 0, 0, 0, 0, 0, 0, 0, 0, 0, 0] [4, 0, 0, 0, 0, 0, 0, 0, 0, 0, 0, 0, 0, 0, 0, 0, 0, 0, 0, 0, 0, 0, 0, 0, 0, 0, 0, 0, 0, 0, 0, 0] u57 (padL (2 ^ 2) ([[1, 0, 0, 0, 0, 0, 0, 0, 0, 0, 0, 0, 0, 0, 0, 0, 0, 0, 0, 0, 0, 0, 0, 0, 0, 0, 0, 0, 0, 0, 0, 0], [2, 0, 0, 0, 0, 0, 0, 0, 0, 0, 0, 0, 0, 0, 0, 0, 0, 0, 0, 0, 0, 0, 0, 0, 0, 0, 0, 0, 0, 0, 0, 0], [3, 0, 0, 0, 0, 0, 0, 0, 0, 0, 0, 0, 0, 0, 0, 0, 0, 0, 0, 0, 0, 0, 0, 0, 0, 0, 0, 0, 0, 0, 0, 0]] : List (List UInt8))) 3 _ (hM.get 14 rfl) (hM.get 7 rfl) (hM.get 0 rfl) (fun x hx => ((apart_of_get hM.apart (i := 0) (j := 7) rfl rfl (by decide)).1 x hx).1) (fun x hx => ((apart_of_get hM.apart (i := 0) (j := 14) rfl rfl (by decide)).1 x hx).2) (by first | (simp; done) | (simp [*]; done) | (simp; omega)) (OkTs.pad hrl56) (by first | decide | omega) (padL_length (by first | decide | simp)) (by first | (simp; done) | (simp [*]; done) | (simp; omega))) rfl ?_
          rintro e w38 ⟨q147, rfl, hN⟩
          refine ⟨_, rfl, trivial, ?_⟩; clear hE a; intro a hE
          replace hM : Mem _ _ w38 [_, _, _, _, _, _, _, _, _, _, _, _, _, _, _, _] := hM.call1' hN ⟨rfl, rfl, trivial⟩; clear hN
          replace hE := hE.cast 147 rfl (show _ = Value.tuple #[q147, .int .i64 0] from tupE (n := 0) (eZ_0 (by decide)))
          replace hM := Mem.ownRowsEq (f := intC) (ls := chgZ [9, 0, 0, 0, 0, 0, 0, 0, 0, 0, 0, 0, 0, 0, 0, 0, 0, 0, 0, 0, 0, 0, 0, 0, 0, 0, 0, 0, 0, 0, 0, 0] 2 (padL (2 ^ 2) ([[1, 0, 0, 0, 0, 0, 0, 0, 0, 0, 0, 0, 0, 0, 0, 0, 0, 0, 0, 0, 0, 0, 0, 0, 0, 0, 0, 0, 0, 0, 0, 0], [2, 0, 0, 0, 0, 0, 0, 0, 0, 0, 0, 0, 0, 0, 0, 0, 0, 0, 0, 0, 0, 0, 0, 0, 0, 0, 0, 0, 0, 0, 0, 0], [3, 0, 0, 0, 0, 0, 0, 0, 0, 0, 0, 0, 0, 0, 0, 0, 0, 0, 0, 0, 0, 0, 0, 0, 0, 0, 0, 0, 0, 0, 0, 0]] : List (List UInt8))) 3 [4, 0, 0, 0, 0, 0, 0, 0, 0, 0, 0, 0, 0, 0, 0, 0, 0, 0, 0, 0, 0, 0, 0, 0, 0, 0, 0, 0, 0, 0, 0, 0]) (ms := ([3, 1] : List Nat)) hM kn_chg
          refine s_move hE rfl rfl ?_; clear hE a; intro a hE
          refine s_extract hE rfl rfl rfl ?_; clear hE a; intro a hE
          refine s_extract hE rfl rfl rfl ?_; clear hE a; intro a hE
          refine s_assign hE rfl rfl ?_; clear hE a; intro a hE
          refine s_assign hE rfl rfl ?_; clear hE a; intro a hE
          refine q_nil ?_
          replace hE : Env a 321 [(0, _), (1, _), (2, _), (3, _), (4, _), (5, _), (6, _), (8, _), (10, _), (12, _), (14, _), (16, _), (18, _), (19, _), (20, _), (143, _)] := hE.sel [0, 1, 2, 3, 4, 5, 6, 8, 10, 12, 14, 16, 18, 19, 20, 143] rfl
          refine hK13 _ _ ?_
          refine wp_seq_k (fun K14 hK14 => ?_)
          refine wp_plain [true, true, false, true, true, true, true, true] rfl rfl ?_
          refine s_move hE rfl rfl ?_; clear hE a; intro a hE
          refine s_loadN hE rfl (hM.get 10 rfl) row34 rfl (by intro X h; cases h) rfl ?_; clear hE a; intro a hE
          replace hM : Mem _ _ w38 [_, _, _, _, _, _, _, _, _, _, _, _, _, _, _, _] := hM.pick [1, 0, 2, 3, 4, 5, 6, 7, 8, 9, 10, 11, 12, 13, 14, 15] rfl
          refine s_call hE rfl Tryd.call11 (tsetI_c b57 2 [9, 0, 0, 0, 0, 0, 0, 0, 0, 0, 0, 0, 0, 0, 0, 0, 0, 0, 0, 0, 0, 0, 0, 0, 0, 0, 0, 0, 0, 0, 0, 0] [4, 0, 0, 0, 0, 0, 0, 0, 0, 0, 0, 0, 0, 0, 0, 0, 0, 0, 0, 0, 0, 0, 0, 0, 0, 0, 0, 0, 0, 0, 0, 0] u57 (lvZ (padL (2 ^ 2) ([[1, 0, 0, 0, 0, 0, 0, 0, 0, 0, 0, 0, 0, 0, 0, 0, 0, 0, 0, 0, 0, 0, 0, 0, 0, 0, 0, 0, 0, 0, 0, 0], [2, 0, 0, 0, 0, 0, 0, 0, 0, 0, 0, 0, 0, 0, 0, 0, 0, 0, 0, 0, 0, 0, 0, 0, 0, 0, 0, 0, 0, 0, 0, 0], [3, 0, 0, 0, 0, 0, 0, 0, 0, 0, 0, 0, 0, 0, 0, 0, 0, 0, 0, 0, 0, 0, 0, 0, 0, 0, 0, 0, 0, 0, 0, 0]] : List (List UInt8))) 2 3 [4, 0, 0, 0, 0, 0, 0, 0, 0, 0, 0, 0, 0, 0, 0, 0, 0, 0, 0, 0, 0, 0, 0, 0, 0, 0, 0, 0, 0, 0, 0, 0]) 3 _ (hM.get 15 rfl) (hM.get 8 rfl) (hM.get 0 rfl) (fun x hx => ((apart_of_get hM.apart (i := 0) (j := 8) rfl rfl (by decide)).1 x hx).1) (fun x hx => ((apart_of_get hM.apart (i := 0) (j := 15) rfl rfl (by decide)).1 x hx).2) (by first | (simp; done) | (simp [*]; done) | (simp; omega)) (lvZ_ok (OkTs.pad hrl56) (by first | (simp; done) | (simp [*]; done) | (simp; omega))) (by first | decide | omega) (lvZ_len.trans (padL_length (by first | decide | simp))) (by first | (simp; done) | (simp [*]; done) | (simp; omega))) rfl ?_
          rintro e w39 ⟨q153, rfl, hN⟩
          refine ⟨_, rfl, trivial, ?_⟩; clear hE a; intro a hE
          replace hM : Mem _ _ w39 [_, _, _, _, _, _, _, _, _, _, _, _, _, _, _, _, _] := hM.call1' hN ⟨rfl, rfl, trivial⟩; clear hN
          replace hE := hE.cast 153 rfl (show _ = Value.tuple #[q153, .int .i64 0] from tupE (n := 0) (eZ_0 (by decide)))
          replace hM := Mem.ownRowsEq (f := intC) (ls := chgZ [9, 0, 0, 0, 0, 0, 0, 0, 0, 0, 0, 0, 0, 0, 0, 0, 0, 0, 0, 0, 0, 0, 0, 0, 0, 0, 0, 0, 0, 0, 0, 0] 2 (lvZ (padL (2 ^ 2) ([[1, 0, 0, 0, 0, 0, 0, 0, 0, 0, 0, 0, 0, 0, 0, 0, 0, 0, 0, 0, 0, 0, 0, 0, 0, 0, 0, 0, 0, 0, 0, 0], [2, 0, 0, 0, 0, 0, 0, 0, 0, 0, 0, 0, 0, 0, 0, 0, 0, 0, 0, 0, 0, 0, 0, 0, 0, 0, 0, 0, 0, 0, 0, 0], [3, 0, 0, 0, 0, 0, 0, 0, 0, 0, 0, 0, 0, 0, 0, 0, 0, 0, 0, 0, 0, 0, 0, 0, 0, 0, 0, 0, 0, 0, 0, 0]] : List (List UInt8))) 2 3 [4, 0, 0, 0, 0, 0, 0, 0, 0, 0, 0, 0, 0, 0, 0, 0, 0, 0, 0, 0, 0, 0, 0, 0, 0, 0, 0, 0, 0, 0, 0, 0]) 3 [4, 0, 0, 0, 0, 0, 0, 0, 0, 0, 0, 0, 0, 0, 0, 0, 0, 0, 0, 0, 0, 0, 0, 0, 0, 0, 0, 0, 0, 0, 0, 0]) (ms := ([] : List Nat)) hM (ex_again rfl)
          refine s_move hE rfl rfl ?_; clear hE a; intro a hE
          refine s_extract hE rfl rfl rfl ?_; clear hE a; intro a hE
          refine s_extract hE rfl rfl rfl ?_; clear hE a; intro a hE
          refine s_assign hE rfl rfl ?_; clear hE a; intro a hE
          refine s_assign hE rfl rfl ?_; clear hE a; intro a hE
          refine q_nil ?_
          replace hE : Env a 321 [(0, _), (1, _), (2, _), (3, _), (4, _), (5, _), (6, _), (8, _), (10, _), (12, _), (14, _), (16, _), (18, _), (19, _), (20, _), (21, _), (22, _), (143, _)] := hE.sel [0, 1, 2, 3, 4, 5, 6, 8, 10, 12, 14, 16, 18, 19, 20, 21, 22, 143] rfl
          refine hK14 _ _ ?_
          refine wp_seq_k (fun K15 hK15 => ?_)
          refine wp_plain [true, true, false, true, true, true, true, true] rfl rfl ?_
          refine s_move hE rfl rfl ?_; clear hE a; intro a hE
          refine s_loadN hE rfl (hM.get 11 rfl) row34 rfl (by intro X h; cases h) rfl ?_; clear hE a; intro a hE
          replace hM : Mem _ _ w39 [_, _, _, _, _, _, _, _, _, _, _, _, _, _, _, _, _] := hM.pick [1, 0, 2, 3, 4, 5, 6, 7, 8, 9, 10, 11, 12, 13, 14, 15, 16] rfl
          refine s_call hE rfl Tryd.call11 (tsetI_c b57 2 [9, 0, 0, 0, 0, 0, 0, 0, 0, 0, 0, 0, 0, 0, 0, 0, 0, 0, 0, 0, 0, 0, 0, 0, 0, 0, 0, 0, 0, 0, 0, 0] [4, 0, 0, 0, 0, 0, 0, 0, 0, 0, 0, 0, 0, 0, 0, 0, 0, 0, 0, 0, 0, 0, 0, 0, 0, 0, 0, 0, 0, 0, 0, 0] u57 (lvZ (lvZ (padL (2 ^ 2) ([[1, 0, 0, 0, 0, 0, 0, 0, 0, 0, 0, 0, 0, 0, 0, 0, 0, 0, 0, 0, 0, 0, 0, 0, 0, 0, 0, 0, 0, 0, 0, 0], [2, 0, 0, 0, 0, 0, 0, 0, 0, 0, 0, 0, 0, 0, 0, 0, 0, 0, 0, 0, 0, 0, 0, 0, 0, 0, 0, 0, 0, 0, 0, 0], [3, 0, 0, 0, 0, 0, 0, 0, 0, 0, 0, 0, 0, 0, 0, 0, 0, 0, 0, 0, 0, 0, 0, 0, 0, 0, 0, 0, 0, 0, 0, 0]] : List (List UInt8))) 2 3 [4, 0, 0, 0, 0, 0, 0, 0, 0, 0, 0, 0, 0, 0, 0, 0, 0, 0, 0, 0, 0, 0, 0, 0, 0, 0, 0, 0, 0, 0, 0, 0]) 2 3 [4, 0, 0, 0, 0, 0, 0, 0, 0, 0, 0, 0, 0, 0, 0, 0, 0, 0, 0, 0, 0, 0, 0, 0, 0, 0, 0, 0, 0, 0, 0, 0]) 4 _ (hM.get 16 rfl) (hM.get 9 rfl) (hM.get 0 rfl) (fun x hx => ((apart_of_get hM.apart (i := 0) (j := 9) rfl rfl (by decide)).1 x hx).1) (fun x hx => ((apart_of_get hM.apart (i := 0) (j := 16) rfl rfl (by decide)).1 x hx).2) (by first | (simp; done) | (simp [*]; done) | (simp; omega)) (lvZ_ok (lvZ_ok (OkTs.pad hrl56) (by first | (simp; done) | (simp [*]; done) | (simp; omega))) (by first | (simp; done) | (simp [*]; done) | (simp; omega))) (by first | decide | omega) (lvZ_len.trans (lvZ_len.trans (padL_length (by first | decide | simp)))) (by first | (simp; done) | (simp [*]; done) | (simp; omega))) rfl ?_
          rintro e w40 ⟨q159, rfl, hN⟩
          refine ⟨_, rfl, trivial, ?_⟩; clear hE a; intro a hE
          replace hM : Mem _ _ w40 [_, _, _, _, _, _, _, _, _, _, _, _, _, _, _, _, _, _] := hM.call1' hN ⟨rfl, rfl, trivial⟩; clear hN
          replace hE := hE.cast 159 rfl (show _ = Value.tuple #[q159, .int .i64 2] from tupE (n := 2) (eZ_out (by decide)))
          refine s_move hE rfl rfl ?_; clear hE a; intro a hE
          refine s_extract hE rfl rfl rfl ?_; clear hE a; intro a hE
          refine s_extract hE rfl rfl rfl ?_; clear hE a; intro a hE
          refine s_assign hE rfl rfl ?_; clear hE a; intro a hE
          refine s_assign hE rfl rfl ?_; clear hE a; intro a hE
          refine q_nil ?_
          replace hE : Env a 321 [(0, _), (1, _), (2, _), (3, _), (4, _), (5, _), (6, _), (8, _), (10, _), (12, _), (14, _), (16, _), (18, _), (19, _), (20, _), (21, _), (22, _), (24, _), (143, _)] := hE.sel [0, 1, 2, 3, 4, 5, 6, 8, 10, 12, 14, 16, 18, 19, 20, 21, 22, 24, 143] rfl
          refine hK15 _ _ ?_
          refine wp_seq_k (fun K16 hK16 => ?_)
          refine wp_plain [false, true] rfl rfl ?_
          refine s_call hE rfl Tryd.call15 (tpathI_c 2 3 _) rfl ?_
          rintro e w41 ⟨v162, rfl, hN⟩
          refine ⟨_, rfl, trivial, ?_⟩; clear hE a; intro a hE
          replace hM : Mem _ _ w41 [_, _, _, _, _, _, _, _, _, _, _, _, _, _, _, _, _, _, _] := hM.call0 hN ⟨rfl, trivial⟩; clear hN
          replace hM := Mem.ownRowsEq (f := intC) (ls := pathZ 2 3) (ms := ([3, 1] : List Nat)) hM kp23
          refine s_assign hE rfl rfl ?_; clear hE a; intro a hE
          refine q_nil ?_
          replace hE : Env a 321 [(0, _), (1, _), (2, _), (3, _), (4, _), (5, _), (6, _), (8, _), (10, _), (12, _), (14, _), (16, _), (18, _), (19, _), (20, _), (21, _), (22, _), (24, _), (25, _), (143, _)] := hE.sel [0, 1, 2, 3, 4, 5, 6, 8, 10, 12, 14, 16, 18, 19, 20, 21, 22, 24, 25, 143] rfl
          refine hK16 _ _ ?_
          refine wp_seq_k (fun K17 hK17 => ?_)
          refine wp_plain [true, false, true, true, true, false, false, true] rfl rfl ?_
          refine s_move hE rfl rfl ?_; clear hE a; intro a hE
          obtain ⟨cs18, hs18⟩ := own_rd (hM.get 2 rfl)
          refine s_call hE rfl Tryd.call24 (tnodeI_c b57 2 [9, 0, 0, 0, 0, 0, 0, 0, 0, 0, 0, 0, 0, 0, 0, 0, 0, 0, 0, 0, 0, 0, 0, 0, 0, 0, 0, 0, 0, 0, 0, 0] u57 (allT [9, 0, 0, 0, 0, 0, 0, 0, 0, 0, 0, 0, 0, 0, 0, 0, 0, 0, 0, 0, 0, 0, 0, 0, 0, 0, 0, 0, 0, 0, 0, 0] (2 ^ 2) (lvZ (lvZ (lvZ (padL (2 ^ 2) ([[1, 0, 0, 0, 0, 0, 0, 0, 0, 0, 0, 0, 0, 0, 0, 0, 0, 0, 0, 0, 0, 0, 0, 0, 0, 0, 0, 0, 0, 0, 0, 0], [2, 0, 0, 0, 0, 0, 0, 0, 0, 0, 0, 0, 0, 0, 0, 0, 0, 0, 0, 0, 0, 0, 0, 0, 0, 0, 0, 0, 0, 0, 0, 0], [3, 0, 0, 0, 0, 0, 0, 0, 0, 0, 0, 0, 0, 0, 0, 0, 0, 0, 0, 0, 0, 0, 0, 0, 0, 0, 0, 0, 0, 0, 0, 0]] : List (List UInt8))) 2 3 [4, 0, 0, 0, 0, 0, 0, 0, 0, 0, 0, 0, 0, 0, 0, 0, 0, 0, 0, 0, 0, 0, 0, 0, 0, 0, 0, 0, 0, 0, 0, 0]) 2 3 [4, 0, 0, 0, 0, 0, 0, 0, 0, 0, 0, 0, 0, 0, 0, 0, 0, 0, 0, 0, 0, 0, 0, 0, 0, 0, 0, 0, 0, 0, 0, 0]) 2 4 [4, 0, 0, 0, 0, 0, 0, 0, 0, 0, 0, 0, 0, 0, 0, 0, 0, 0, 0, 0, 0, 0, 0, 0, 0, 0, 0, 0, 0, 0, 0, 0])) cs18 4 _ (hM.get 11 rfl) hs18 (by first | (simp; done) | (simp [*]; done) | (simp; omega)) (OkTs.all (lvZ_ok (lvZ_ok (lvZ_ok (OkTs.pad hrl56) (by first | (simp; done) | (simp [*]; done) | (simp; omega))) (by first | (simp; done) | (simp [*]; done) | (simp; omega))) (by first | (simp; done) | (simp [*]; done) | (simp; omega)))) (by first | decide | omega) (allT_len (Nat.le_of_eq (lvZ_len.trans (lvZ_len.trans (lvZ_len.trans (padL_length (by first | decide | simp)))))))) rfl ?_
          rintro e w42 ⟨rfl, hN⟩
          refine ⟨_, rfl, trivial, ?_⟩; clear hE a; intro a hE
          replace hM : Mem _ _ w42 [_, _, _, _, _, _, _, _, _, _, _, _, _, _, _, _, _, _, _] := hM.call0 hN trivial; clear hN
          replace hE := hE.cast 165 rfl (show _ = Value.tuple #[.agg (bv (nodeZ (allT [9, 0, 0, 0, 0, 0, 0, 0, 0, 0, 0, 0, 0, 0, 0, 0, 0, 0, 0, 0, 0, 0, 0, 0, 0, 0, 0, 0, 0, 0, 0, 0] (2 ^ 2) (lvZ (lvZ (lvZ (padL (2 ^ 2) ([[1, 0, 0, 0, 0, 0, 0, 0, 0, 0, 0, 0, 0, 0, 0, 0, 0, 0, 0, 0, 0, 0, 0, 0, 0, 0, 0, 0, 0, 0, 0, 0], [2, 0, 0, 0, 0, 0, 0, 0, 0, 0, 0, 0, 0, 0, 0, 0, 0, 0, 0, 0, 0, 0, 0, 0, 0, 0, 0, 0, 0, 0, 0, 0], [3, 0, 0, 0, 0, 0, 0, 0, 0, 0, 0, 0, 0, 0, 0, 0, 0, 0, 0, 0, 0, 0, 0, 0, 0, 0, 0, 0, 0, 0, 0, 0]] : List (List UInt8))) 2 3 [4, 0, 0, 0, 0, 0, 0, 0, 0, 0, 0, 0, 0, 0, 0, 0, 0, 0, 0, 0, 0, 0, 0, 0, 0, 0, 0, 0, 0, 0, 0, 0]) 2 3 [4, 0, 0, 0, 0, 0, 0, 0, 0, 0, 0, 0, 0, 0, 0, 0, 0, 0, 0, 0, 0, 0, 0, 0, 0, 0, 0, 0, 0, 0, 0, 0]) 2 4 [4, 0, 0, 0, 0, 0, 0, 0, 0, 0, 0, 0, 0, 0, 0, 0, 0, 0, 0, 0, 0, 0, 0, 0, 0, 0, 0, 0, 0, 0, 0, 0])) (2 ^ 2) 4)).toArray, .int .i64 2] from tupE (n := 2) (eZ_out (by decide)))
          refine s_move hE rfl rfl ?_; clear hE a; intro a hE
          refine s_extract hE rfl rfl rfl ?_; clear hE a; intro a hE
          refine s_extract hE rfl rfl rfl ?_; clear hE a; intro a hE
          refine s_alloc [64] hE hM zero52 rfl rfl ?_; clear hE a; intro a b26 w43 hE hM'
          clear hM; have hM := hM'; clear hM'
          refine s_storeSeg 0 hE rfl rfl hM rfl sz52 ((bv_length _).trans (nodeZ_len (OkTs.all (lvZ_ok (lvZ_ok (lvZ_ok (OkTs.pad hrl56) (by first | (simp; done) | (simp [*]; done) | (simp; omega))) (by first | (simp; done) | (simp [*]; done) | (simp; omega))) (by first | (simp; done) | (simp [*]; done) | (simp; omega)))))) (bv_one _) rfl ((bv_length _).trans (by first | (simp; done) | (simp [*]; done) | (simp; omega))) rfl (by intro X h; cases h) ?_; intro w44 hM'; clear hM; have hM := hM'; clear hM'
          simp only [List.set_cons_zero, List.set_cons_succ] at hM
          refine s_assign hE rfl rfl ?_; clear hE a; intro a hE
          refine q_nil ?_
          replace hE : Env a 321 [(0, _), (1, _), (2, _), (3, _), (4, _), (5, _), (6, _), (8, _), (10, _), (12, _), (14, _), (16, _), (18, _), (19, _), (20, _), (21, _), (22, _), (24, _), (25, _), (27, _), (143, _)] := hE.sel [0, 1, 2, 3, 4, 5, 6, 8, 10, 12, 14, 16, 18, 19, 20, 21, 22, 24, 25, 27, 143] rfl
          refine hK17 _ _ ?_
          refine wp_seq_k (fun K18 hK18 => ?_)
          refine wp_plain [true, false, true, true, true, false, false, true] rfl rfl ?_
          refine s_move hE rfl rfl ?_; clear hE a; intro a hE
          obtain ⟨cs19, hs19⟩ := own_rd (hM.get 3 rfl)
          refine s_call hE rfl Tryd.call13 (ttagI_c b57 2 [9, 0, 0, 0, 0, 0, 0, 0, 0, 0, 0, 0, 0, 0, 0, 0, 0, 0, 0, 0, 0, 0, 0, 0, 0, 0, 0, 0, 0, 0, 0, 0] u57 (allT [9, 0, 0, 0, 0, 0, 0, 0, 0, 0, 0, 0, 0, 0, 0, 0, 0, 0, 0, 0, 0, 0, 0, 0, 0, 0, 0, 0, 0, 0, 0, 0] (2 ^ 2) (lvZ (lvZ (lvZ (padL (2 ^ 2) ([[1, 0, 0, 0, 0, 0, 0, 0, 0, 0, 0, 0, 0, 0, 0, 0, 0, 0, 0, 0, 0, 0, 0, 0, 0, 0, 0, 0, 0, 0, 0, 0], [2, 0, 0, 0, 0, 0, 0, 0, 0, 0, 0, 0, 0, 0, 0, 0, 0, 0, 0, 0, 0, 0, 0, 0, 0, 0, 0, 0, 0, 0, 0, 0], [3, 0, 0, 0, 0, 0, 0, 0, 0, 0, 0, 0, 0, 0, 0, 0, 0, 0, 0, 0, 0, 0, 0, 0, 0, 0, 0, 0, 0, 0, 0, 0]] : List (List UInt8))) 2 3 [4, 0, 0, 0, 0, 0, 0, 0, 0, 0, 0, 0, 0, 0, 0, 0, 0, 0, 0, 0, 0, 0, 0, 0, 0, 0, 0, 0, 0, 0, 0, 0]) 2 3 [4, 0, 0, 0, 0, 0, 0, 0, 0, 0, 0, 0, 0, 0, 0, 0, 0, 0, 0, 0, 0, 0, 0, 0, 0, 0, 0, 0, 0, 0, 0, 0]) 2 4 [4, 0, 0, 0, 0, 0, 0, 0, 0, 0, 0, 0, 0, 0, 0, 0, 0, 0, 0, 0, 0, 0, 0, 0, 0, 0, 0, 0, 0, 0, 0, 0])) cs19 8 _ (hM.get 12 rfl) hs19 (by first | (simp; done) | (simp [*]; done) | (simp; omega)) (OkTs.all (lvZ_ok (lvZ_ok (lvZ_ok (OkTs.pad hrl56) (by first | (simp; done) | (simp [*]; done) | (simp; omega))) (by first | (simp; done) | (simp [*]; done) | (simp; omega))) (by first | (simp; done) | (simp [*]; done) | (simp; omega)))) (by first | decide | omega) (allT_len (Nat.le_of_eq (lvZ_len.trans (lvZ_len.trans (lvZ_len.trans (padL_length (by first | decide | simp)))))))) rfl ?_
          rintro e w45 ⟨rfl, hN⟩
          refine ⟨_, rfl, trivial, ?_⟩; clear hE a; intro a hE
          replace hM : Mem _ _ w45 [_, _, _, _, _, _, _, _, _, _, _, _, _, _, _, _, _, _, _, _] := hM.call0 hN trivial; clear hN
          replace hE := hE.cast 170 rfl (show _ = Value.tuple #[.agg (bv (tagZ (allT [9, 0, 0, 0, 0, 0, 0, 0, 0, 0, 0, 0, 0, 0, 0, 0, 0, 0, 0, 0, 0, 0, 0, 0, 0, 0, 0, 0, 0, 0, 0, 0] (2 ^ 2) (lvZ (lvZ (lvZ (padL (2 ^ 2) ([[1, 0, 0, 0, 0, 0, 0, 0, 0, 0, 0, 0, 0, 0, 0, 0, 0, 0, 0, 0, 0, 0, 0, 0, 0, 0, 0, 0, 0, 0, 0, 0], [2, 0, 0, 0, 0, 0, 0, 0, 0, 0, 0, 0, 0, 0, 0, 0, 0, 0, 0, 0, 0, 0, 0, 0, 0, 0, 0, 0, 0, 0, 0, 0], [3, 0, 0, 0, 0, 0, 0, 0, 0, 0, 0, 0, 0, 0, 0, 0, 0, 0, 0, 0, 0, 0, 0, 0, 0, 0, 0, 0, 0, 0, 0, 0]] : List (List UInt8))) 2 3 [4, 0, 0, 0, 0, 0, 0, 0, 0, 0, 0, 0, 0, 0, 0, 0, 0, 0, 0, 0, 0, 0, 0, 0, 0, 0, 0, 0, 0, 0, 0, 0]) 2 3 [4, 0, 0, 0, 0, 0, 0, 0, 0, 0, 0, 0, 0, 0, 0, 0, 0, 0, 0, 0, 0, 0, 0, 0, 0, 0, 0, 0, 0, 0, 0, 0]) 2 4 [4, 0, 0, 0, 0, 0, 0, 0, 0, 0, 0, 0, 0, 0, 0, 0, 0, 0, 0, 0, 0, 0, 0, 0, 0, 0, 0, 0, 0, 0, 0, 0])) (2 ^ 2) 8)).toArray, .int .i64 2] from tupE (n := 2) (eZ_out (by decide)))
          refine s_move hE rfl rfl ?_; clear hE a; intro a hE
          refine s_extract hE rfl rfl rfl ?_; clear hE a; intro a hE
          refine s_extract hE rfl rfl rfl ?_; clear hE a; intro a hE
          refine s_alloc [32] hE hM zero34 rfl rfl ?_; clear hE a; intro a b28 w46 hE hM'
          clear hM; have hM := hM'; clear hM'
          refine s_storeSeg 0 hE rfl rfl hM rfl sz34 ((bv_length _).trans (tagZ_len (OkTs.all (lvZ_ok (lvZ_ok (lvZ_ok (OkTs.pad hrl56) (by first | (simp; done) | (simp [*]; done) | (simp; omega))) (by first | (simp; done) | (simp [*]; done) | (simp; omega))) (by first | (simp; done) | (simp [*]; done) | (simp; omega)))))) (bv_one _) rfl ((bv_length _).trans (by first | (simp; done) | (simp [*]; done) | (simp; omega))) rfl (by intro X h; cases h) ?_; intro w47 hM'; clear hM; have hM := hM'; clear hM'
          simp only [List.set_cons_zero, List.set_cons_succ] at hM
          refine s_assign hE rfl rfl ?_; clear hE a; intro a hE
          refine q_nil ?_
          replace hE : Env a 321 [(0, _), (1, _), (2, _), (3, _), (4, _), (5, _), (6, _), (8, _), (10, _), (12, _), (14, _), (16, _), (18, _), (19, _), (20, _), (21, _), (22, _), (24, _), (25, _), (27, _), (29, _), (143, _)] := hE.sel [0, 1, 2, 3, 4, 5, 6, 8, 10, 12, 14, 16, 18, 19, 20, 21, 22, 24, 25, 27, 29, 143] rfl
          refine hK18 _ _ ?_
          refine wp_seq_k (fun K19 hK19 => ?_)
          refine wp_plain [true, false, true, true, true, false, false, true] rfl rfl ?_
          refine s_move hE rfl rfl ?_; clear hE a; intro a hE
          obtain ⟨cs20, hs20⟩ := own_rd (hM.get 4 rfl)
          refine s_call hE rfl Tryd.call13 (ttagI_c b57 2 [9, 0, 0, 0, 0, 0, 0, 0, 0, 0, 0, 0, 0, 0, 0, 0, 0, 0, 0, 0, 0, 0, 0, 0, 0, 0, 0, 0, 0, 0, 0, 0] u57 (allT [9, 0, 0, 0, 0, 0, 0, 0, 0, 0, 0, 0, 0, 0, 0, 0, 0, 0, 0, 0, 0, 0, 0, 0, 0, 0, 0, 0, 0, 0, 0, 0] (2 ^ 2) (lvZ (lvZ (lvZ (padL (2 ^ 2) ([[1, 0, 0, 0, 0, 0, 0, 0, 0, 0, 0, 0, 0, 0, 0, 0, 0, 0, 0, 0, 0, 0, 0, 0, 0, 0, 0, 0, 0, 0, 0, 0], [2, 0, 0, 0, 0, 0, 0, 0, 0, 0, 0, 0, 0, 0, 0, 0, 0, 0, 0, 0, 0, 0, 0, 0, 0, 0, 0, 0, 0, 0, 0, 0], [3, 0, 0, 0, 0, 0, 0, 0, 0, 0, 0, 0, 0, 0, 0, 0, 0, 0, 0, 0, 0, 0, 0, 0, 0, 0, 0, 0, 0, 0, 0, 0]] : List (List UInt8))) 2 3 [4, 0, 0, 0, 0, 0, 0, 0, 0, 0, 0, 0, 0, 0, 0, 0, 0, 0, 0, 0, 0, 0, 0, 0, 0, 0, 0, 0, 0, 0, 0, 0]) 2 3 [4, 0, 0, 0, 0, 0, 0, 0, 0, 0, 0, 0, 0, 0, 0, 0, 0, 0, 0, 0, 0, 0, 0, 0, 0, 0, 0, 0, 0, 0, 0, 0]) 2 4 [4, 0, 0, 0, 0, 0, 0, 0, 0, 0, 0, 0, 0, 0, 0, 0, 0, 0, 0, 0, 0, 0, 0, 0, 0, 0, 0, 0, 0, 0, 0, 0])) cs20 0 _ (hM.get 13 rfl) hs20 (by first | (simp; done) | (simp [*]; done) | (simp; omega)) (OkTs.all (lvZ_ok (lvZ_ok (lvZ_ok (OkTs.pad hrl56) (by first | (simp; done) | (simp [*]; done) | (simp; omega))) (by first | (simp; done) | (simp [*]; done) | (simp; omega))) (by first | (simp; done) | (simp [*]; done) | (simp; omega)))) (by first | decide | omega) (allT_len (Nat.le_of_eq (lvZ_len.trans (lvZ_len.trans (lvZ_len.trans (padL_length (by first | decide | simp)))))))) rfl ?_
          rintro e w48 ⟨rfl, hN⟩
          refine ⟨_, rfl, trivial, ?_⟩; clear hE a; intro a hE
          replace hM : Mem _ _ w48 [_, _, _, _, _, _, _, _, _, _, _, _, _, _, _, _, _, _, _, _, _] := hM.call0 hN trivial; clear hN
          replace hE := hE.cast 175 rfl (show _ = Value.tuple #[.agg (bv (tagZ (allT [9, 0, 0, 0, 0, 0, 0, 0, 0, 0, 0, 0, 0, 0, 0, 0, 0, 0, 0, 0, 0, 0, 0, 0, 0, 0, 0, 0, 0, 0, 0, 0] (2 ^ 2) (lvZ (lvZ (lvZ (padL (2 ^ 2) ([[1, 0, 0, 0, 0, 0, 0, 0, 0, 0, 0, 0, 0, 0, 0, 0, 0, 0, 0, 0, 0, 0, 0, 0, 0, 0, 0, 0, 0, 0, 0, 0], [2, 0, 0, 0, 0, 0, 0, 0, 0, 0, 0, 0, 0, 0, 0, 0, 0, 0, 0, 0, 0, 0, 0, 0, 0, 0, 0, 0, 0, 0, 0, 0], [3, 0, 0, 0, 0, 0, 0, 0, 0, 0, 0, 0, 0, 0, 0, 0, 0, 0, 0, 0, 0, 0, 0, 0, 0, 0, 0, 0, 0, 0, 0, 0]] : List (List UInt8))) 2 3 [4, 0, 0, 0, 0, 0, 0, 0, 0, 0, 0, 0, 0, 0, 0, 0, 0, 0, 0, 0, 0, 0, 0, 0, 0, 0, 0, 0, 0, 0, 0, 0]) 2 3 [4, 0, 0, 0, 0, 0, 0, 0, 0, 0, 0, 0, 0, 0, 0, 0, 0, 0, 0, 0, 0, 0, 0, 0, 0, 0, 0, 0, 0, 0, 0, 0]) 2 4 [4, 0, 0, 0, 0, 0, 0, 0, 0, 0, 0, 0, 0, 0, 0, 0, 0, 0, 0, 0, 0, 0, 0, 0, 0, 0, 0, 0, 0, 0, 0, 0])) (2 ^ 2) 0)).toArray, .int .i64 2] from tupE (n := 2) (eZ_out (by decide)))
          refine s_move hE rfl rfl ?_; clear hE a; intro a hE
          refine s_extract hE rfl rfl rfl ?_; clear hE a; intro a hE
          refine s_extract hE rfl rfl rfl ?_; clear hE a; intro a hE
          refine s_alloc [32] hE hM zero34 rfl rfl ?_; clear hE a; intro a b30 w49 hE hM'
          clear hM; have hM := hM'; clear hM'
          refine s_storeSeg 0 hE rfl rfl hM rfl sz34 ((bv_length _).trans (tagZ_len (OkTs.all (lvZ_ok (lvZ_ok (lvZ_ok (OkTs.pad hrl56) (by first | (simp; done) | (simp [*]; done) | (simp; omega))) (by first | (simp; done) | (simp [*]; done) | (simp; omega))) (by first | (simp; done) | (simp [*]; done) | (simp; omega)))))) (bv_one _) rfl ((bv_length _).trans (by first | (simp; done) | (simp [*]; done) | (simp; omega))) rfl (by intro X h; cases h) ?_; intro w50 hM'; clear hM; have hM := hM'; clear hM'
          simp only [List.set_cons_zero, List.set_cons_succ] at hM
          refine s_assign hE rfl rfl ?_; clear hE a; intro a hE
          refine q_nil ?_
          replace hE : Env a 321 [(0, _), (1, _), (2, _), (3, _), (4, _), (5, _), (6, _), (8, _), (10, _), (12, _), (14, _), (16, _), (18, _), (19, _), (20, _), (21, _), (22, _), (24, _), (25, _), (27, _), (29, _), (31, _), (143, _)] := hE.sel [0, 1, 2, 3, 4, 5, 6, 8, 10, 12, 14, 16, 18, 19, 20, 21, 22, 24, 25, 27, 29, 31, 143] rfl
          refine hK19 _ _ ?_
          refine wp_seq_k (fun K20 hK20 => ?_)
          refine wp_plain [true, false, true, true, true, true, true] rfl rfl ?_
          refine s_loadN hE rfl (hM.get 20 rfl) row23 rfl (by intro X h; cases h) rfl ?_; clear hE a; intro a hE
          refine s_call hE rfl Tryd.call10 (tnew_no1 [9, 0, 0, 0, 0, 0, 0, 0, 0, 0, 0, 0, 0, 0, 0, 0, 0, 0, 0, 0, 0, 0, 0, 0, 0, 0, 0, 0, 0, 0, 0, 0] 0 _ ([] : List (List UInt8)) _ _ (by first | (simp; done) | (simp [*]; done) | (simp; omega)) (rd_nilR 32 _) ok_nil (by omega)) rfl ?_
          rintro e w51 ⟨rfl, hN⟩
          refine ⟨_, rfl, trivial, ?_⟩; clear hE a; intro a hE
          replace hM : Mem _ _ w51 [_, _, _, _, _, _, _, _, _, _, _, _, _, _, _, _, _, _, _, _, _, _] := hM.call0 hN trivial; clear hN
          refine s_move hE rfl rfl ?_; clear hE a; intro a hE
          refine s_extract hE rfl rfl rfl ?_; clear hE a; intro a hE
          refine s_extract hE rfl rfl rfl ?_; clear hE a; intro a hE
          refine s_assign hE rfl rfl ?_; clear hE a; intro a hE
          refine s_assign hE rfl rfl ?_; clear hE a; intro a hE
          refine q_nil ?_
          replace hE : Env a 321 [(0, _), (1, _), (2, _), (3, _), (4, _), (5, _), (6, _), (8, _), (10, _), (12, _), (14, _), (16, _), (18, _), (19, _), (20, _), (21, _), (22, _), (24, _), (25, _), (27, _), (29, _), (31, _), (33, _), (143, _)] := hE.sel [0, 1, 2, 3, 4, 5, 6, 8, 10, 12, 14, 16, 18, 19, 20, 21, 22, 24, 25, 27, 29, 31, 33, 143] rfl
          refine hK20 _ _ ?_
          refine wp_seq_k (fun K21 hK21 => ?_)
          refine wp_plain [true, false, true, true, true, true, true] rfl rfl ?_
          refine s_loadN hE rfl (hM.get 20 rfl) row23 rfl (by intro X h; cases h) rfl ?_; clear hE a; intro a hE
          refine s_call hE rfl Tryd.call10 (tnew_no1 [9, 0, 0, 0, 0, 0, 0, 0, 0, 0, 0, 0, 0, 0, 0, 0, 0, 0, 0, 0, 0, 0, 0, 0, 0, 0, 0, 0, 0, 0, 0, 0] 13 _ ([] : List (List UInt8)) _ _ (by first | (simp; done) | (simp [*]; done) | (simp; omega)) (rd_nilR 32 _) ok_nil (by omega)) rfl ?_
          rintro e w52 ⟨rfl, hN⟩
          refine ⟨_, rfl, trivial, ?_⟩; clear hE a; intro a hE
          replace hM : Mem _ _ w52 [_, _, _, _, _, _, _, _, _, _, _, _, _, _, _, _, _, _, _, _, _, _] := hM.call0 hN trivial; clear hN
          refine s_move hE rfl rfl ?_; clear hE a; intro a hE
          refine s_extract hE rfl rfl rfl ?_; clear hE a; intro a hE
          refine s_extract hE rfl rfl rfl ?_; clear hE a; intro a hE
          refine s_assign hE rfl rfl ?_; clear hE a; intro a hE
          refine s_assign hE rfl rfl ?_; clear hE a; intro a hE
          refine q_nil ?_
          replace hE : Env a 321 [(0, _), (1, _), (2, _), (3, _), (4, _), (5, _), (6, _), (8, _), (10, _), (12, _), (14, _), (16, _), (18, _), (19, _), (20, _), (21, _), (22, _), (24, _), (25, _), (27, _), (29, _), (31, _), (33, _), (35, _), (143, _)] := hE.sel [0, 1, 2, 3, 4, 5, 6, 8, 10, 12, 14, 16, 18, 19, 20, 21, 22, 24, 25, 27, 29, 31, 33, 35, 143] rfl
          refine hK21 _ _ ?_
          refine wp_seq_k (fun K22 hK22 => ?_)
          refine wp_drawnM hM (by kernel_rfl) (fun _ => False) [(0, true), (1, false), (2, false), (3, true), (4, true), (5, true), (6, true), (7, true)] [(1, [(2, 1), (3, 2), (4, 3), (5, 3), (6, 1), (7, 1)]), (2, [(3, 2), (4, 3), (5, 3), (6, 2), (7, 2)])] (by kernel_rfl) rfl ?_
          intro w53 hM' hww53; clear hM; have hM := hM'; clear hM'
          refine s_loadN hE rfl (hM.get 20 rfl) row23 rfl (by intro X h; cases h; simp) rfl ?_; clear hE a; intro a hE
          refine s_makeSlice (m := 3) (zc := bv zTg) hE rfl rfl hM sl24 ⟨.agg ([bv (List.replicate 32 0)] : List (List Value)).flatten.toArray, by kernel_rfl, rfl⟩ rfl rfl (by first | decide | omega) (by first | decide | omega) (by decide) rfl ?_; clear hE a; intro a v190 w54 hE hM'; clear hM; have hM := hM'; clear hM'
          replace hM := hM.ownEq (m' := (List.replicate 3 zTg).length) (cs' := (List.replicate 3 zTg).flatMap bv) List.length_replicate.symm (rep_flat rfl)
          obtain ⟨cq21, hq21⟩ := own_rd (hM.get 0 rfl)
          refine s_call hE rfl Tryd.call10 (tnew_no2 [9, 0, 0, 0, 0, 0, 0, 0, 0, 0, 0, 0, 0, 0, 0, 0, 0, 0, 0, 0, 0, 0, 0, 0, 0, 0, 0, 0, 0, 0, 0, 0] 1 _ (List.replicate 3 zTg) _ _ (by first | (simp; done) | (simp [*]; done) | (simp; omega)) hq21 (ok_rep zTg_len) (by omega) (by first | decide | simp)) rfl ?_
          rintro e w55 ⟨rfl, hN⟩
          refine ⟨_, rfl, hN.sta0 _, ?_⟩; clear hE a; intro a hE
          replace hM : Mem _ _ w55 [_, _, _, _, _, _, _, _, _, _, _, _, _, _, _, _, _, _, _, _, _, _, _] := hM.call0 hN trivial; clear hN
          refine s_move hE rfl rfl ?_; clear hE a; intro a hE
          refine s_extract hE rfl rfl rfl ?_; clear hE a; intro a hE
          refine s_extract hE rfl rfl rfl ?_; clear hE a; intro a hE
          refine s_assign hE rfl rfl ?_; clear hE a; intro a hE
          refine s_assign hE rfl rfl ?_; clear hE a; intro a hE
          refine q_nil ?_
          replace hE : Env a 321 [(0, _), (1, _), (2, _), (3, _), (4, _), (5, _), (6, _), (8, _), (10, _), (12, _), (14, _), (16, _), (18, _), (19, _), (20, _), (21, _), (22, _), (24, _), (25, _), (27, _), (29, _), (31, _), (33, _), (35, _), (37, _), (143, _)] := hE.sel [0, 1, 2, 3, 4, 5, 6, 8, 10, 12, 14, 16, 18, 19, 20, 21, 22, 24, 25, 27, 29, 31, 33, 35, 37, 143] rfl
          refine hK22 _ _ ?_
          refine wp_seq_k (fun K23 hK23 => ?_)
          refine wp_plain [true] rfl rfl ?_
          refine s_assign hE rfl rfl ?_; clear hE a; intro a hE
          refine q_nil ?_
          refine hK23 _ _ ?_
          refine wp_seq_k (fun K24 hK24 => ?_)
          refine wp_plain [true, false, true] rfl rfl ?_
          refine s_buildS [] hE rfl zero73 rfl fpl73 (by simp [PartsOk, Value.cells, *]) rfl ?_; clear hE a; intro a hE
          replace hE := hE.cast 194 rfl (show _ = Value.agg ([bv (List.replicate 32 (0 : UInt8)), [.int .i64 0], [.slice none 0 0]] : List (List Value)).flatten.toArray from (by first | rfl | simp [setAll]))
          refine s_box (ss := [bv (List.replicate 32 (0 : UInt8)), [.int .i64 0], [.slice none 0 0]]) [32, 1, 1] hE hM rfl rfl (by simp [*]) rfl ?_; clear hE a; intro a b195 w56 hE hM'
          clear hM; have hM := hM'; clear hM'
          refine s_assign hE rfl rfl ?_; clear hE a; intro a hE
          refine q_nil ?_
          replace hE : Env a 321 [(0, _), (1, _), (2, _), (3, _), (4, _), (5, _), (6, _), (8, _), (10, _), (12, _), (14, _), (16, _), (18, _), (19, _), (20, _), (21, _), (22, _), (24, _), (25, _), (27, _), (29, _), (31, _), (33, _), (35, _), (37, _), (38, _), (39, _), (143, _)] := hE.sel [0, 1, 2, 3, 4, 5, 6, 8, 10, 12, 14, 16, 18, 19, 20, 21, 22, 24, 25, 27, 29, 31, 33, 35, 37, 38, 39, 143] rfl
          refine hK24 _ _ ?_
          refine wp_seq_k (fun K25 hK25 => ?_)
          refine wp_plain [true, true, false, true, true, true, true, true] rfl rfl ?_
          refine s_move hE rfl rfl ?_; clear hE a; intro a hE
          refine s_loadN hE rfl (hM.get 21 rfl) row34 rfl (by intro X h; cases h) rfl ?_; clear hE a; intro a hE
          refine s_call hE rfl Tryd.call11 (tset_nil 0 [1, 0, 0, 0, 0, 0, 0, 0, 0, 0, 0, 0, 0, 0, 0, 0, 0, 0, 0, 0, 0, 0, 0, 0, 0, 0, 0, 0, 0, 0, 0, 0] _ (by first | (simp; done) | (simp [*]; done) | (simp; omega))) rfl ?_
          rintro e w57 ⟨v199, rfl, hN⟩
          refine ⟨_, rfl, trivial, ?_⟩; clear hE a; intro a hE
          replace hM : Mem _ _ w57 [_, _, _, _, _, _, _, _, _, _, _, _, _, _, _, _, _, _, _, _, _, _, _, _, _] := hM.call0 hN ⟨rfl, trivial⟩; clear hN
          refine s_move hE rfl rfl ?_; clear hE a; intro a hE
          refine s_extract hE rfl rfl rfl ?_; clear hE a; intro a hE
          refine s_extract hE rfl rfl rfl ?_; clear hE a; intro a hE
          refine s_assign hE rfl rfl ?_; clear hE a; intro a hE
          refine s_assign hE rfl rfl ?_; clear hE a; intro a hE
          refine q_nil ?_
          replace hE : Env a 321 [(0, _), (1, _), (2, _), (3, _), (4, _), (5, _), (6, _), (8, _), (10, _), (12, _), (14, _), (16, _), (18, _), (19, _), (20, _), (21, _), (22, _), (24, _), (25, _), (27, _), (29, _), (31, _), (33, _), (35, _), (37, _), (38, _), (39, _), (41, _), (143, _)] := hE.sel [0, 1, 2, 3, 4, 5, 6, 8, 10, 12, 14, 16, 18, 19, 20, 21, 22, 24, 25, 27, 29, 31, 33, 35, 37, 38, 39, 41, 143] rfl
          refine hK25 _ _ ?_
          refine wp_seq_k (fun K26 hK26 => ?_)
          refine wp_plain [true, false, true, true, true, true, true] rfl rfl ?_
          refine s_move hE rfl rfl ?_; clear hE a; intro a hE
          refine s_call hE rfl Tryd.call14 (tproof_zero b195 (List.replicate 32 (0 : UInt8)) _ 0 _ (hM.get 1 rfl) List.length_replicate) rfl ?_
          rintro e w58 ⟨v204, rfl, hN⟩
          refine ⟨_, rfl, trivial, ?_⟩; clear hE a; intro a hE
          replace hM : Mem _ _ w58 [_, _, _, _, _, _, _, _, _, _, _, _, _, _, _, _, _, _, _, _, _, _, _, _, _, _] := hM.call0 hN ⟨rfl, trivial⟩; clear hN
          refine s_move hE rfl rfl ?_; clear hE a; intro a hE
          refine s_extract hE rfl rfl rfl ?_; clear hE a; intro a hE
          refine s_extract hE rfl rfl rfl ?_; clear hE a; intro a hE
          refine s_assign hE rfl rfl ?_; clear hE a; intro a hE
          refine s_assign hE rfl rfl ?_; clear hE a; intro a hE
          refine q_nil ?_
          replace hE : Env a 321 [(0, _), (1, _), (2, _), (3, _), (4, _), (5, _), (6, _), (8, _), (10, _), (12, _), (14, _), (16, _), (18, _), (19, _), (20, _), (21, _), (22, _), (24, _), (25, _), (27, _), (29, _), (31, _), (33, _), (35, _), (37, _), (38, _), (39, _), (41, _), (43, _), (143, _)] := hE.sel [0, 1, 2, 3, 4, 5, 6, 8, 10, 12, 14, 16, 18, 19, 20, 21, 22, 24, 25, 27, 29, 31, 33, 35, 37, 38, 39, 41, 43, 143] rfl
          refine hK26 _ _ ?_
          refine wp_seq_k (fun K27 hK27 => ?_)
          refine wp_plain [true, false, true, true, true, false, false, true] rfl rfl ?_
          refine s_move hE rfl rfl ?_; clear hE a; intro a hE
          refine s_call hE rfl Tryd.call13 (ttag_zero b195 (List.replicate 32 (0 : UInt8)) _ 1 _ (hM.get 2 rfl) List.length_replicate) rfl ?_
          rintro e w59 ⟨rfl, hN⟩
          refine ⟨_, rfl, trivial, ?_⟩; clear hE a; intro a hE
          replace hM : Mem _ _ w59 [_, _, _, _, _, _, _, _, _, _, _, _, _, _, _, _, _, _, _, _, _, _, _, _, _, _] := hM.call0 hN trivial; clear hN
          refine s_move hE rfl rfl ?_; clear hE a; intro a hE
          refine s_extract hE rfl rfl rfl ?_; clear hE a; intro a hE
          refine s_extract hE rfl rfl rfl ?_; clear hE a; intro a hE
          refine s_alloc [32] hE hM zero34 rfl rfl ?_; clear hE a; intro a b44 w60 hE hM'
          clear hM; have hM := hM'; clear hM'
          refine s_storeSeg 0 hE rfl rfl hM rfl sz34 ((bv_length _).trans List.length_replicate) (bv_one _) rfl ((bv_length _).trans (by first | (simp; done) | (simp [*]; done) | (simp; omega))) rfl (by intro X h; cases h) ?_; intro w61 hM'; clear hM; have hM := hM'; clear hM'
          simp only [List.set_cons_zero, List.set_cons_succ] at hM
          refine s_assign hE rfl rfl ?_; clear hE a; intro a hE
          refine q_nil ?_
          replace hE : Env a 321 [(0, _), (1, _), (2, _), (3, _), (4, _), (5, _), (6, _), (8, _), (10, _), (12, _), (14, _), (16, _), (18, _), (19, _), (20, _), (21, _), (22, _), (24, _), (25, _), (27, _), (29, _), (31, _), (33, _), (35, _), (37, _), (38, _), (39, _), (41, _), (43, _), (45, _), (143, _)] := hE.sel [0, 1, 2, 3, 4, 5, 6, 8, 10, 12, 14, 16, 18, 19, 20, 21, 22, 24, 25, 27, 29, 31, 33, 35, 37, 38, 39, 41, 43, 45, 143] rfl
          refine hK27 _ _ ?_
          refine wp_seq_k (fun K28 hK28 => ?_)
          refine wp_seq_k (fun K29 hK29 => ?_)
          refine wp_plain [true, true, true, true, true, true, true, true, true, true, true, true, true, true, true, true, true, true, true, true, true, true, true, true, true, true, true, true, true, true, true, true, true, true, true, true, true, true, true, true, true, true, true, true, true, true, true, true, true, true, false, true, true, true, true, false, true, true, true] rfl rfl ?_
          refine s_move hE rfl rfl ?_; clear hE a; intro a hE
          refine s_len hE rfl Tryd.underlying35 (own_slice (hM.get 12 rfl)) rfl ?_; clear hE a; intro a hE
          refine s_bin hE rfl rfl bin_neq rfl ?_; clear hE a; intro a hE
          refine s_move hE rfl rfl ?_; clear hE a; intro a hE
          replace hE := hE.cast 215 rfl (show _ = Value.bool false from (congrArg Value.bool (by first | rfl | decide | simp)))
          refine g_yes hE rfl rfl ?_
          refine s_move hE rfl rfl ?_; clear hE a; intro a hE
          refine g_yes hE rfl rfl ?_
          obtain ⟨cx217, hx217⟩ := own_rd (hM.get 12 rfl)
          refine s_indexRd (j := 0) hE rfl hx217 rfl slt35 (by first | rfl | omega) (by decide) rfl ?_; clear hE a; intro a p217 hE hc217 hp217
          have hlj217 : 0 < ([3, 1] : List Nat).length := (by decide)
          have hok217 := ok31 _ (getD_mem (d := 0) hlj217)
          rw [flat_elem (d := 0) (fun x hx => (show (intC _).length = 1 from rfl)) hlj217] at hc217
          refine g_yes hE rfl rfl ?_
          replace hc217 : (cellsAt _ [.int .i64 (((([3, 1] : List Nat).getD 0 0) : Nat) : Int)]).holds _ := hc217
          refine s_loadAt1 hE rfl hc217 one3 (by intro X h; cases h) rfl ?_; clear hE a; intro a hE
          refine g_yes hE rfl rfl ?_
          refine s_bin hE rfl rfl bin_neq rfl ?_; clear hE a; intro a hE
          refine s_pickf hE rfl rfl rfl ?_; clear hE a; intro a hE
          refine s_move hE rfl rfl ?_; clear hE a; intro a hE
          replace hE := hE.cast 221 rfl (show _ = Value.bool false from (congrArg Value.bool (by first | rfl | decide | simp)))
          refine g_yes hE rfl rfl ?_
          refine s_move hE rfl rfl ?_; clear hE a; intro a hE
          refine g_yes hE rfl rfl ?_
          obtain ⟨cx223, hx223⟩ := own_rd (hM.get 12 rfl)
          refine s_indexRd (j := 1) hE rfl hx223 rfl slt35 (by first | rfl | omega) (by decide) rfl ?_; clear hE a; intro a p223 hE hc223 hp223
          have hlj223 : 1 < ([3, 1] : List Nat).length := (by decide)
          have hok223 := ok31 _ (getD_mem (d := 0) hlj223)
          rw [flat_elem (d := 0) (fun x hx => (show (intC _).length = 1 from rfl)) hlj223] at hc223
          refine g_yes hE rfl rfl ?_
          replace hc223 : (cellsAt _ [.int .i64 (((([3, 1] : List Nat).getD 1 0) : Nat) : Int)]).holds _ := hc223
          refine s_loadAt1 hE rfl hc223 one3 (by intro X h; cases h) rfl ?_; clear hE a; intro a hE
          refine g_yes hE rfl rfl ?_
          refine s_bin hE rfl rfl bin_neq rfl ?_; clear hE a; intro a hE
          refine s_pickf hE rfl rfl rfl ?_; clear hE a; intro a hE
          refine s_move hE rfl rfl ?_; clear hE a; intro a hE
          replace hE := hE.cast 227 rfl (show _ = Value.bool false from (congrArg Value.bool (by first | rfl | decide | simp)))
          refine g_yes hE rfl rfl ?_
          refine s_move hE rfl rfl ?_; clear hE a; intro a hE
          refine g_yes hE rfl rfl ?_
          refine s_bin hE rfl rfl bin_neq rfl ?_; clear hE a; intro a hE
          replace hE := hE.cast 229 rfl (show _ = Value.bool false from (congrArg Value.bool (by decide)))
          refine s_pickf hE rfl rfl rfl ?_; clear hE a; intro a hE
          refine s_move hE rfl rfl ?_; clear hE a; intro a hE
          refine g_yes hE rfl rfl ?_
          refine s_move hE rfl rfl ?_; clear hE a; intro a hE
          refine g_yes hE rfl rfl ?_
          refine s_len hE rfl Tryd.underlying35 (own_slice (hM.get 11 rfl)) rfl ?_; clear hE a; intro a hE
          refine g_yes hE rfl rfl ?_
          refine s_bin hE rfl rfl bin_neq rfl ?_; clear hE a; intro a hE
          refine s_pickf hE rfl rfl rfl ?_; clear hE a; intro a hE
          refine s_move hE rfl rfl ?_; clear hE a; intro a hE
          replace hE := hE.cast 236 rfl (show _ = Value.bool false from (congrArg Value.bool (by first | rfl | decide | simp)))
          refine g_yes hE rfl rfl ?_
          refine s_move hE rfl rfl ?_; clear hE a; intro a hE
          refine g_yes hE rfl rfl ?_
          refine s_bin hE rfl rfl bin_neq rfl ?_; clear hE a; intro a hE
          replace hE := hE.cast 238 rfl (show _ = Value.bool false from (congrArg Value.bool (by decide)))
          refine s_pickf hE rfl rfl rfl ?_; clear hE a; intro a hE
          refine s_move hE rfl rfl ?_; clear hE a; intro a hE
          refine g_yes hE rfl rfl ?_
          refine s_move hE rfl rfl ?_; clear hE a; intro a hE
          refine g_yes hE rfl rfl ?_
          refine s_bin hE rfl rfl bin_neq rfl ?_; clear hE a; intro a hE
          replace hE := hE.cast 242 rfl (show _ = Value.bool false from (congrArg Value.bool (by decide)))
          refine s_pickf hE rfl rfl rfl ?_; clear hE a; intro a hE
          refine s_move hE rfl rfl ?_; clear hE a; intro a hE
          refine g_yes hE rfl rfl ?_
          refine s_move hE rfl rfl ?_; clear hE a; intro a hE
          refine g_yes hE rfl rfl ?_
          refine s_len hE rfl Tryd.underlying35 (own_slice (hM.get 8 rfl)) rfl ?_; clear hE a; intro a hE
          refine g_yes hE rfl rfl ?_
          refine s_bin hE rfl rfl bin_neq rfl ?_; clear hE a; intro a hE
          refine s_pickf hE rfl rfl rfl ?_; clear hE a; intro a hE
          refine s_move hE rfl rfl ?_; clear hE a; intro a hE
          replace hE := hE.cast 249 rfl (show _ = Value.bool false from (congrArg Value.bool (by first | rfl | decide | simp)))
          refine g_yes hE rfl rfl ?_
          refine s_move hE rfl rfl ?_; clear hE a; intro a hE
          refine g_yes hE rfl rfl ?_
          obtain ⟨cx251, hx251⟩ := own_rd (hM.get 8 rfl)
          refine s_indexRd (j := 0) hE rfl hx251 rfl slt35 (by first | rfl | omega) (by decide) rfl ?_; clear hE a; intro a p251 hE hc251 hp251
          have hlj251 : 0 < ([3, 1] : List Nat).length := (by decide)
          have hok251 := ok31 _ (getD_mem (d := 0) hlj251)
          rw [flat_elem (d := 0) (fun x hx => (show (intC _).length = 1 from rfl)) hlj251] at hc251
          refine g_yes hE rfl rfl ?_
          replace hc251 : (cellsAt _ [.int .i64 (((([3, 1] : List Nat).getD 0 0) : Nat) : Int)]).holds _ := hc251
          refine s_loadAt1 hE rfl hc251 one3 (by intro X h; cases h) rfl ?_; clear hE a; intro a hE
          refine g_yes hE rfl rfl ?_
          refine s_bin hE rfl rfl bin_neq rfl ?_; clear hE a; intro a hE
          refine s_pickf hE rfl rfl rfl ?_; clear hE a; intro a hE
          refine s_move hE rfl rfl ?_; clear hE a; intro a hE
          replace hE := hE.cast 255 rfl (show _ = Value.bool false from (congrArg Value.bool (by first | rfl | decide | simp)))
          refine g_yes hE rfl rfl ?_
          refine s_move hE rfl rfl ?_; clear hE a; intro a hE
          refine g_yes hE rfl rfl ?_
          obtain ⟨cx257, hx257⟩ := own_rd (hM.get 8 rfl)
          refine s_indexRd (j := 1) hE rfl hx257 rfl slt35 (by first | rfl | omega) (by decide) rfl ?_; clear hE a; intro a p257 hE hc257 hp257
          have hlj257 : 1 < ([3, 1] : List Nat).length := (by decide)
          have hok257 := ok31 _ (getD_mem (d := 0) hlj257)
          rw [flat_elem (d := 0) (fun x hx => (show (intC _).length = 1 from rfl)) hlj257] at hc257
          refine g_yes hE rfl rfl ?_
          replace hc257 : (cellsAt _ [.int .i64 (((([3, 1] : List Nat).getD 1 0) : Nat) : Int)]).holds _ := hc257
          refine s_loadAt1 hE rfl hc257 one3 (by intro X h; cases h) rfl ?_; clear hE a; intro a hE
          refine g_yes hE rfl rfl ?_
          refine s_bin hE rfl rfl bin_neq rfl ?_; clear hE a; intro a hE
          refine s_pickf hE rfl rfl rfl ?_; clear hE a; intro a hE
          refine s_move hE rfl rfl ?_; clear hE a; intro a hE
          replace hE := hE.cast 261 rfl (show _ = Value.bool false from (congrArg Value.bool (by first | rfl | decide | simp)))
          refine g_yes hE rfl rfl ?_
          refine s_call hE rfl Tryd.call15 (tpathI_c 2 4 _) rfl ?_
          rintro e w62 ⟨v262, rfl, hN⟩
          refine ⟨_, rfl, trivial, ?_⟩; clear hE a; intro a hE
          replace hM : Mem _ _ w62 [_, _, _, _, _, _, _, _, _, _, _, _, _, _, _, _, _, _, _, _, _, _, _, _, _, _, _, _] := hM.call0 hN ⟨rfl, trivial⟩; clear hN
          replace hM := Mem.ownRowsEq (f := intC) (ls := pathZ 2 4) (ms := ([] : List Nat)) hM (pathZ_out2 (h := 2) (by decide))
          refine g_yes hE rfl rfl ?_
          refine s_len hE rfl Tryd.underlying35 (own_slice (hM.get 0 rfl)) rfl ?_; clear hE a; intro a hE
          refine g_yes hE rfl rfl ?_
          refine s_bin hE rfl rfl bin_neq rfl ?_; clear hE a; intro a hE
          refine s_pickf hE rfl rfl rfl ?_; clear hE a; intro a hE
          refine s_move hE rfl rfl ?_; clear hE a; intro a hE
          replace hE := hE.cast 266 rfl (show _ = Value.bool false from (congrArg Value.bool (by first | rfl | decide | simp)))
          refine g_yes hE rfl rfl ?_
          refine s_call hE rfl Tryd.call15 (tpathI_c 13 0 _) rfl ?_
          rintro e w63 ⟨v267, rfl, hN⟩
          refine ⟨_, rfl, trivial, ?_⟩; clear hE a; intro a hE
          replace hM : Mem _ _ w63 [_, _, _, _, _, _, _, _, _, _, _, _, _, _, _, _, _, _, _, _, _, _, _, _, _, _, _, _, _] := hM.call0 hN ⟨rfl, trivial⟩; clear hN
          replace hM := Mem.ownRowsEq (f := intC) (ls := pathZ 13 0) (ms := ([] : List Nat)) hM (pathZ_out1 (by decide))
          refine g_yes hE rfl rfl ?_
          refine s_len hE rfl Tryd.underlying35 (own_slice (hM.get 0 rfl)) rfl ?_; clear hE a; intro a hE
          refine g_yes hE rfl rfl ?_
          refine s_bin hE rfl rfl bin_neq rfl ?_; clear hE a; intro a hE
          refine s_pickf hE rfl rfl rfl ?_; clear hE a; intro a hE
          refine q_nil ?_
          replace hE : Env a 321 [(0, _), (1, _), (2, _), (3, _), (4, _), (5, _), (6, _), (8, _), (10, _), (12, _), (14, _), (16, _), (18, _), (27, _), (29, _), (31, _), (33, _), (35, _), (37, _), (38, _), (39, _), (41, _), (43, _), (45, _), (143, _), (270, _)] := hE.sel [0, 1, 2, 3, 4, 5, 6, 8, 10, 12, 14, 16, 18, 27, 29, 31, 33, 35, 37, 38, 39, 41, 43, 45, 143, 270] rfl
          refine hK29 _ _ ?_
          replace hE := hE.cast 270 rfl (show _ = Value.bool false from (congrArg Value.bool (by first | rfl | decide | simp)))
          refine wp_cond_false (hE.eval rfl) ?_
          refine wp_skip ?_
          refine hK28 _ _ ?_
          refine wp_seq_k (fun K30 hK30 => ?_)
          refine wp_plain [true, true, true, true, true, true, true, true, true, true, true, true, true, true, true, true, true, true, true, true, true, true, true, true, true, true, true, true, true, true, true, true, true, true, true, true, false, true, true, true, true, true, true, true, false, true, true, true, false, true, true] rfl rfl ?_
          refine s_move hE rfl rfl ?_; clear hE a; intro a hE
          refine s_bin hE rfl rfl bin_eql rfl ?_; clear hE a; intro a hE
          replace hE := hE.cast 272 rfl (show _ = Value.bool true from (congrArg Value.bool (by decide)))
          refine s_move hE rfl rfl ?_; clear hE a; intro a hE
          refine g_yes hE rfl rfl ?_
          refine s_move hE rfl rfl ?_; clear hE a; intro a hE
          refine g_yes hE rfl rfl ?_
          refine s_bin hE rfl rfl bin_eql rfl ?_; clear hE a; intro a hE
          replace hE := hE.cast 275 rfl (show _ = Value.bool true from (congrArg Value.bool (by decide)))
          refine s_pickt hE rfl rfl rfl ?_; clear hE a; intro a hE
          refine s_move hE rfl rfl ?_; clear hE a; intro a hE
          refine g_yes hE rfl rfl ?_
          refine s_move hE rfl rfl ?_; clear hE a; intro a hE
          refine g_yes hE rfl rfl ?_
          refine s_bin hE rfl rfl bin_eql rfl ?_; clear hE a; intro a hE
          replace hE := hE.cast 279 rfl (show _ = Value.bool true from (congrArg Value.bool (by decide)))
          refine s_pickt hE rfl rfl rfl ?_; clear hE a; intro a hE
          refine s_move hE rfl rfl ?_; clear hE a; intro a hE
          refine g_yes hE rfl rfl ?_
          refine s_move hE rfl rfl ?_; clear hE a; intro a hE
          refine g_yes hE rfl rfl ?_
          refine s_bin hE rfl rfl bin_eql rfl ?_; clear hE a; intro a hE
          replace hE := hE.cast 283 rfl (show _ = Value.bool true from (congrArg Value.bool (by decide)))
          refine s_pickt hE rfl rfl rfl ?_; clear hE a; intro a hE
          refine s_move hE rfl rfl ?_; clear hE a; intro a hE
          refine g_yes hE rfl rfl ?_
          refine s_move hE rfl rfl ?_; clear hE a; intro a hE
          refine g_yes hE rfl rfl ?_
          refine s_bin hE rfl rfl bin_eql rfl ?_; clear hE a; intro a hE
          replace hE := hE.cast 287 rfl (show _ = Value.bool true from (congrArg Value.bool (by decide)))
          refine s_pickt hE rfl rfl rfl ?_; clear hE a; intro a hE
          refine s_move hE rfl rfl ?_; clear hE a; intro a hE
          refine g_yes hE rfl rfl ?_
          refine s_move hE rfl rfl ?_; clear hE a; intro a hE
          refine g_yes hE rfl rfl ?_
          refine s_bin hE rfl rfl bin_eql rfl ?_; clear hE a; intro a hE
          replace hE := hE.cast 291 rfl (show _ = Value.bool true from (congrArg Value.bool (by decide)))
          refine s_pickt hE rfl rfl rfl ?_; clear hE a; intro a hE
          refine s_move hE rfl rfl ?_; clear hE a; intro a hE
          refine g_yes hE rfl rfl ?_
          refine s_move hE rfl rfl ?_; clear hE a; intro a hE
          refine g_yes hE rfl rfl ?_
          refine s_bin hE rfl rfl bin_eql rfl ?_; clear hE a; intro a hE
          replace hE := hE.cast 295 rfl (show _ = Value.bool true from (congrArg Value.bool (by decide)))
          refine s_pickt hE rfl rfl rfl ?_; clear hE a; intro a hE
          refine s_move hE rfl rfl ?_; clear hE a; intro a hE
          refine g_yes hE rfl rfl ?_
          refine s_move hE rfl rfl ?_; clear hE a; intro a hE
          refine g_yes hE rfl rfl ?_
          refine s_bin hE rfl rfl bin_eql rfl ?_; clear hE a; intro a hE
          replace hE := hE.cast 299 rfl (show _ = Value.bool true from (congrArg Value.bool (by decide)))
          refine s_pickt hE rfl rfl rfl ?_; clear hE a; intro a hE
          refine s_move hE rfl rfl ?_; clear hE a; intro a hE
          refine g_yes hE rfl rfl ?_
          refine s_move hE rfl rfl ?_; clear hE a; intro a hE
          refine g_yes hE rfl rfl ?_
          refine s_bin hE rfl rfl bin_eql rfl ?_; clear hE a; intro a hE
          replace hE := hE.cast 303 rfl (show _ = Value.bool true from (congrArg Value.bool (by decide)))
          refine s_pickt hE rfl rfl rfl ?_; clear hE a; intro a hE
          refine s_move hE rfl rfl ?_; clear hE a; intro a hE
          refine g_yes hE rfl rfl ?_
          refine s_move hE rfl rfl ?_; clear hE a; intro a hE
          refine g_yes hE rfl rfl ?_
          refine s_call hE rfl Tryd.call12 (ttop_nil _) rfl ?_
          rintro e w64 ⟨rfl, hN⟩
          refine ⟨_, rfl, trivial, ?_⟩; clear hE a; intro a hE
          replace hM : Mem _ _ w64 [_, _, _, _, _, _, _, _, _, _, _, _, _, _, _, _, _, _, _, _, _, _, _, _, _, _, _, _, _] := hM.call0 hN trivial; clear hN
          refine g_yes hE rfl rfl ?_
          refine s_build (r := .agg (bv (List.replicate 32 (0 : UInt8))).toArray) _ hE rfl (fun w => by kernel_rfl) rfl ?_; clear hE a; intro a hE
          refine g_yes hE rfl rfl ?_
          refine s_bin hE rfl rfl (eqa34 List.length_replicate (by first | (simp; done) | (simp [*]; done) | (simp; omega))).1 rfl ?_; clear hE a; intro a hE
          refine s_pickt hE rfl rfl rfl ?_; clear hE a; intro a hE
          refine s_move hE rfl rfl ?_; clear hE a; intro a hE
          replace hE := hE.cast 311 rfl (show _ = Value.bool true from (congrArg Value.bool (by first | rfl | simp)))
          refine g_yes hE rfl rfl ?_
          refine s_loadN hE rfl (hM.get 27 rfl) row23 rfl (by intro X h; cases h) rfl ?_; clear hE a; intro a hE
          refine g_yes hE rfl rfl ?_
          refine s_loadN hE rfl (hM.get 26 rfl) row34 rfl (by intro X h; cases h) rfl ?_; clear hE a; intro a hE
          refine g_yes hE rfl rfl ?_
          refine s_loadN hE rfl (hM.get 26 rfl) row34 rfl (by intro X h; cases h) rfl ?_; clear hE a; intro a hE
          refine g_yes hE rfl rfl ?_
          refine s_call hE rfl Tryd.call16 (tcheckI_c [9, 0, 0, 0, 0, 0, 0, 0, 0, 0, 0, 0, 0, 0, 0, 0, 0, 0, 0, 0, 0, 0, 0, 0, 0, 0, 0, 0, 0, 0, 0, 0] 0 [1, 0, 0, 0, 0, 0, 0, 0, 0, 0, 0, 0, 0, 0, 0, 0, 0, 0, 0, 0, 0, 0, 0, 0, 0, 0, 0, 0, 0, 0, 0, 0] _ ([] : List (List UInt8)) _ [1, 0, 0, 0, 0, 0, 0, 0, 0, 0, 0, 0, 0, 0, 0, 0, 0, 0, 0, 0, 0, 0, 0, 0, 0, 0, 0, 0, 0, 0, 0, 0] _ (hM.get 28 rfl) (by first | (simp; done) | (simp [*]; done) | (simp; omega)) (by first | (simp; done) | (simp [*]; done) | (simp; omega)) (rd_nilR 64 _) ok_nil (by first | (simp; done) | (simp [*]; done) | (simp; omega))) rfl ?_
          rintro e w65 ⟨rfl, hN⟩
          refine ⟨_, rfl, trivial, ?_⟩; clear hE a; intro a hE
          replace hM : Mem _ _ w65 [_, _, _, _, _, _, _, _, _, _, _, _, _, _, _, _, _, _, _, _, _, _, _, _, _, _, _, _, _] := hM.call0 hN trivial; clear hN
          refine g_yes hE rfl rfl ?_
          refine s_not hE rfl rfl ?_; clear hE a; intro a hE
          refine s_pickt hE rfl rfl rfl ?_; clear hE a; intro a hE
          refine s_move hE rfl rfl ?_; clear hE a; intro a hE
          replace hE := hE.cast 318 rfl (show _ = Value.bool true from (congrArg Value.bool (by rw [chkZ_out1 (by decide)]; rfl)))
          refine g_yes hE rfl rfl ?_
          refine s_call hE rfl Tryd.call9 (works_c  _ (hM.get 28 rfl)) rfl ?_
          rintro e w66 ⟨rfl, hN⟩
          refine ⟨_, rfl, trivial, ?_⟩; clear hE a; intro a hE
          replace hM : Mem _ _ w66 [_, _, _, _, _, _, _, _, _, _, _, _, _, _, _, _, _, _, _, _, _, _, _, _, _, _, _, _, _] := hM.call0 hN trivial; clear hN
          refine s_pickt hE rfl rfl rfl ?_; clear hE a; intro a hE
          refine s_assign hE rfl rfl ?_; clear hE a; intro a hE
          refine q_nil ?_
          replace hE : Env a 321 [(0, _), (1, _), (2, _), (3, _), (4, _), (5, _), (6, _), (8, _), (10, _), (12, _), (14, _), (16, _), (18, _), (38, _), (39, _), (143, _), (270, _)] := hE.sel [0, 1, 2, 3, 4, 5, 6, 8, 10, 12, 14, 16, 18, 38, 39, 143, 270] rfl
          refine hK30 _ _ ?_
          refine wp_ret ?_
          refine f_ret1 hE rfl rfl ?_
          exact ⟨(by first | rfl | (simp; done)), hM.pick [] rfl⟩
        trivial
      trivial
    trivial
  trivial
set_option maxRecDepth 100000 in
theorem treeKnown_lifted (os : Os) (started : os.Started) (H : Type) (enc : TypeId × Value → H) :
    ReturnsInHanded {} Tryd.checked os 7 .any (fun w args => (Rows.treeKnownSpec.pre enc Tryd.prog Tryd.f7 [] false w args ∧ laidMetH Tryd.prog Rows.treeKnownRow.laid w) ∧ sizedMet enc Tryd.prog Tryd.f7 (OpenSpec.ofChange Rows.treeKnownSpec) false w args) (Rows.treeKnownSpec.post enc Tryd.prog Tryd.f7 false true false false) := by
  refine law_liftedL (C := Tryd.checked) (fn := Tryd.f7) (l := Rows.treeKnownRow.laid) (by kernel_rfl) started (by kernel_rfl) Tryd.func7 rfl (fun ds hl => ?_) rfl Tryd.underlying4 (by kernel_rfl) (of_decide_eq_true (by kernel_rfl)) (by kernel_rfl)
    (ChangeSpec.witness_shaped (enc := enc) (C := Tryd.checked) (os := os) (X := fun w _ => laidMetH Tryd.prog Rows.treeKnownRow.laid w) false (World.laidAll Tryd.prog os Rows.treeKnownRow.laid) #[] 8 (World.laidAll_os _ _ _) (World.shaped_of_ZipB (by kernel_rfl) (by kernel_rfl)) (by kernel_rfl) (by kernel_rfl) (by kernel_rfl) (by rw [MakeChecks.laidMetH_plain _ _ _ (by kernel_rfl)]; exact laidMet_laidAll _ (by kernel_rfl) (by kernel_rfl))) ?_
  · rw [Tryd.params7] at hl
    match ds, hl with
    | [], _ => rfl
  · intro W base args ds ps hval hA hw hL
    have hG := glb_of_laid (P := Tryd.prog) (g := 0) (t := 123) (e := 102) (by kernel_rfl) (by kernel_rfl) Tryd.underlying123 Tryd.underlying102 (by kernel_rfl) (by kernel_rfl) (by kernel_rfl) (show laidMet Tryd.prog (_ :: _) W from hL)
    rw [Tryd.params7] at hA hval hw
    obtain ⟨hargs, rfl, rfl⟩ := trodAll_nil hA
    obtain rfl : args = #[] := by cases args; simp_all
    exact treeKnown_c W hG

/-- The row's statement. -/
theorem treeKnown_row : Rows.TreeKnownSaid :=
  OpenClaim.holds_of_wide 7 Tryd.f7 rfl rfl rfl rfl rfl rfl rfl ⟨rfl, rfl, rfl, rfl, rfl⟩ rfl rfl rfl rfl rfl (by kernel_rfl) Tryd.func7 (by kernel_rfl)
    (of_decide_eq_true (by kernel_rfl)) (by unfold Func.isWrapper; first | (rw [if_pos (by decide +kernel)]; kernel_rfl) | (rw [if_neg (by decide +kernel)]; exact ⟨rfl, rfl⟩))
    (fun os started H enc _ => treeKnown_lifted os started H enc)

/-- The statement: the row, its listed variable tied to the program's text. -/
theorem treeKnown_holds : Rows.TreeKnownCardSaid :=
  Claim7.holds_tied_plain_at .later [] [.data] true (true, "3e37e367fa882af65b92501024ce61bfddfc4c8207345e6e4fc0786d0584de6e") false
    treeKnown_row (fun _ h => by cases h) (by kernel_rfl) (fun _ h => by cases h) treeKnown_row_tie rfl ⟨rfl, rfl⟩ (by kernel_rfl) rfl
    (fun f fn hf hfn => by
      obtain rfl : f = 7 := Option.some.inj ((show Tryd.prog.funcNamed "casemate/casematelaw18.TreeKnown" = some 7 by kernel_rfl).symm.trans hf) |>.symm
      obtain rfl : fn = Tryd.f7 := (Option.some.inj (Tryd.func7.symm.trans hfn)).symm
      exact ⟨by kernel_rfl, fun j t ht => by
        rw [Tryd.params7] at ht
        simp at ht⟩)
    (by kernel_rfl)
#print axioms treeKnown_holds
end Go.Proofs.YtacebdngbalkmaaDoor
