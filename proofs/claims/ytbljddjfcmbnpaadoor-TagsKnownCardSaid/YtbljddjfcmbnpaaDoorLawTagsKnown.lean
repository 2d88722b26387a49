/- TagsKnown of casematelaw17 returns true. No condition. -/
import Derived.Test.YtbljddjfcmbnpaaDoorLt
import Derived.Test.YtbljddjfcmbnpaaDoorTie
import Derived.Test.YtbljddjfcmbnpaaDoorCards
namespace Go.Proofs.YtbljddjfcmbnpaaDoor
open Go Go.Kx
open Go.ChangeShapes Go.WideShapes Go.ChangeAt Go.RowKit
theorem zero23 : Zero Tryd.prog 23 [bv (List.replicate 32 0)] := ⟨.agg ([bv (List.replicate 32 0)] : List (List Value)).flatten.toArray, by kernel_rfl, by kernel_rfl⟩
theorem sz23 : (Tryd.prog.info? 23).map (·.size) = some 32 := by kernel_rfl
theorem eqa34 : ∀ {a b : List UInt8}, a.length = 32 → b.length = 32 → Bin Tryd.prog .eql 34 (.agg (bv a).toArray) (.agg (bv b).toArray) (.bool (decide (a = b))) ∧ Bin Tryd.prog .neq 34 (.agg (bv a).toArray) (.agg (bv b).toArray) (.bool (!decide (a = b))) := fun ha hb => bins_arr8 Tryd.underlying34 (by kernel_rfl) Tryd.underlying5 (by kernel_rfl) (by kernel_rfl) ha hb
theorem tagsKnown_c  (w : World) (hG : (glb 1).holds w) : Calls Tryd.prog 10 #[] w fun e w' => e = .returned (.bool true) ∧ Mem w [] w' [] := by
  have hM : Mem w [] w [glb 1] := Mem.startR w (fun g hg => by
    simp only [List.mem_cons, List.not_mem_nil, or_false] at hg
    rcases hg with rfl
    · exact ⟨hG, rfl⟩)
  refine f_enter 54 Tryd.func10 rfl rfl rfl ?_
  intro a hE
  replace hE : Env a 54 [] := hE
  refine wp_seq_k (fun K1 hK1 => ?_)
  refine wp_plain [true] rfl rfl ?_
  refine s_assign hE rfl rfl ?_; clear hE a; intro a hE
  refine q_nil ?_
  refine hK1 _ _ ?_
  refine wp_seq_k (fun K2 hK2 => ?_)
  refine wp_plain [true, true, false, false, false, false] rfl rfl ?_
  refine s_build (r := .agg (bv [3, 0, 0, 0, 0, 0, 0, 0, 0, 0, 0, 0, 0, 0, 0, 0, 0, 0, 0, 0, 0, 0, 0, 0, 0, 0, 0, 0, 0, 0, 0, 0]).toArray) _ hE rfl (fun w => by kernel_rfl) rfl ?_; clear hE a; intro a hE
  refine s_build (r := .agg (bv [1, 0, 0, 0, 0, 0, 0, 0, 0, 0, 0, 0, 0, 0, 0, 0, 0, 0, 0, 0, 0, 0, 0, 0, 0, 0, 0, 0, 0, 0, 0, 0, 0, 0, 0, 0, 0, 0, 0, 0, 0, 0, 0, 0, 0, 0, 0, 0, 0, 0, 0, 0, 0, 0, 0, 0, 0, 0, 0, 0, 0, 0, 0, 2]).toArray) _ hE rfl (fun w => by kernel_rfl) rfl ?_; clear hE a; intro a hE
  refine s_alloc [32] hE hM zero23 rfl rfl ?_; clear hE a; intro a b1 w1 hE hM'
  clear hM; have hM := hM'; clear hM'
  refine s_alloc [64] hE hM zero52 rfl rfl ?_; clear hE a; intro a b2 w2 hE hM'
  clear hM; have hM := hM'; clear hM'
  replace hM : Mem _ _ w2 [_, _, _] := hM.pick [1, 0, 2] rfl
  refine s_storeSeg 0 hE rfl rfl hM rfl sz23 ((bv_length _).trans (by first | (simp; done) | (simp [*]; done) | (simp; omega))) (bv_one _) rfl ((bv_length _).trans (by first | (simp; done) | (simp [*]; done) | (simp; omega))) rfl (by intro X h; cases h) ?_; intro w3 hM'; clear hM; have hM := hM'; clear hM'
  simp only [List.set_cons_zero, List.set_cons_succ] at hM
  replace hM : Mem _ _ w3 [_, _, _] := hM.pick [1, 0, 2] rfl
  refine s_storeSeg 0 hE rfl rfl hM rfl sz52 ((bv_length _).trans (by first | (simp; done) | (simp [*]; done) | (simp; omega))) (bv_one _) rfl ((bv_length _).trans (by first | (simp; done) | (simp [*]; done) | (simp; omega))) rfl (by intro X h; cases h) ?_; intro w4 hM'; clear hM; have hM := hM'; clear hM'
  simp only [List.set_cons_zero, List.set_cons_succ] at hM
  refine q_nil ?_
  replace hE : Env a 54 [(0, _), (1, _), (2, _)] := hE.sel [0, 1, 2] rfl
  refine hK2 _ _ ?_
  refine wp_seq_k (fun K3 hK3 => ?_)
  refine wp_plain [true, true, false, false, true, true, true, false, false, false, false] rfl rfl ?_
  refine s_build (r := .agg (bv [1, 0, 0, 0, 0, 0, 0, 0, 0, 0, 0, 0, 0, 0, 0, 0, 0, 0, 0, 0, 0, 0, 0, 0, 0, 0, 0, 0, 0, 0, 0, 0]).toArray) _ hE rfl (fun w => by kernel_rfl) rfl ?_; clear hE a; intro a hE
  refine s_build (r := .agg (bv [2, 0, 0, 0, 0, 0, 0, 0, 0, 0, 0, 0, 0, 0, 0, 0, 0, 0, 0, 0, 0, 0, 0, 0, 0, 0, 0, 0, 0, 0, 0, 0]).toArray) _ hE rfl (fun w => by kernel_rfl) rfl ?_; clear hE a; intro a hE
  refine s_call hE rfl Tryd.call30 (bjoin_c [1, 0, 0, 0, 0, 0, 0, 0, 0, 0, 0, 0, 0, 0, 0, 0, 0, 0, 0, 0, 0, 0, 0, 0, 0, 0, 0, 0, 0, 0, 0, 0] [2, 0, 0, 0, 0, 0, 0, 0, 0, 0, 0, 0, 0, 0, 0, 0, 0, 0, 0, 0, 0, 0, 0, 0, 0, 0, 0, 0, 0, 0, 0, 0] _ (by first | (simp; done) | (simp [*]; done) | (simp; omega)) (by first | (simp; done) | (simp [*]; done) | (simp; omega))) rfl ?_
  rintro e w5 ⟨rfl, hN⟩
  refine ⟨_, rfl, trivial, ?_⟩; clear hE a; intro a hE
  replace hM : Mem _ _ w5 [_, _, _] := hM.call0 hN trivial; clear hN
  refine s_call hE rfl Tryd.call44 (bsplit_c ([1, 0, 0, 0, 0, 0, 0, 0, 0, 0, 0, 0, 0, 0, 0, 0, 0, 0, 0, 0, 0, 0, 0, 0, 0, 0, 0, 0, 0, 0, 0, 0] ++ [2, 0, 0, 0, 0, 0, 0, 0, 0, 0, 0, 0, 0, 0, 0, 0, 0, 0, 0, 0, 0, 0, 0, 0, 0, 0, 0, 0, 0, 0, 0, 0]) _ (by have hl_x : [1, 0, 0, 0, 0, 0, 0, 0, 0, 0, 0, 0, 0, 0, 0, 0, 0, 0, 0, 0, 0, 0, 0, 0, 0, 0, 0, 0, 0, 0, 0, 0].length = 32 := (by first | (simp; done) | (simp [*]; done) | (simp; omega)); have hl_y : [2, 0, 0, 0, 0, 0, 0, 0, 0, 0, 0, 0, 0, 0, 0, 0, 0, 0, 0, 0, 0, 0, 0, 0, 0, 0, 0, 0, 0, 0, 0, 0].length = 32 := (by first | (simp; done) | (simp [*]; done) | (simp; omega)); simp [*])) rfl ?_
  rintro e w6 ⟨rfl, hN⟩
  refine ⟨_, rfl, trivial, ?_⟩; clear hE a; intro a hE
  replace hM : Mem _ _ w6 [_, _, _] := hM.call0 hN trivial; clear hN
  refine s_move hE rfl rfl ?_; clear hE a; intro a hE
  refine s_extract hE rfl rfl rfl ?_; clear hE a; intro a hE
  refine s_extract hE rfl rfl rfl ?_; clear hE a; intro a hE
  refine s_alloc [32] hE hM zero34 rfl rfl ?_; clear hE a; intro a b3 w7 hE hM'
  clear hM; have hM := hM'; clear hM'
  refine s_alloc [32] hE hM zero34 rfl rfl ?_; clear hE a; intro a b4 w8 hE hM'
  clear hM; have hM := hM'; clear hM'
  replace hM : Mem _ _ w8 [_, _, _, _, _] := hM.pick [1, 0, 2, 3, 4] rfl
  refine s_storeSeg 0 hE rfl rfl hM rfl sz34 ((bv_length _).trans (by have hl_x : ([1, 0, 0, 0, 0, 0, 0, 0, 0, 0, 0, 0, 0, 0, 0, 0, 0, 0, 0, 0, 0, 0, 0, 0, 0, 0, 0, 0, 0, 0, 0, 0] ++ [2, 0, 0, 0, 0, 0, 0, 0, 0, 0, 0, 0, 0, 0, 0, 0, 0, 0, 0, 0, 0, 0, 0, 0, 0, 0, 0, 0, 0, 0, 0, 0]).length = 64 := (by have hl_x : [1, 0, 0, 0, 0, 0, 0, 0, 0, 0, 0, 0, 0, 0, 0, 0, 0, 0, 0, 0, 0, 0, 0, 0, 0, 0, 0, 0, 0, 0, 0, 0].length = 32 := (by first | (simp; done) | (simp [*]; done) | (simp; omega)); have hl_y : [2, 0, 0, 0, 0, 0, 0, 0, 0, 0, 0, 0, 0, 0, 0, 0, 0, 0, 0, 0, 0, 0, 0, 0, 0, 0, 0, 0, 0, 0, 0, 0].length = 32 := (by first | (simp; done) | (simp [*]; done) | (simp; omega)); simp [*]); simp [*])) (bv_one _) rfl ((bv_length _).trans (by first | (simp; done) | (simp [*]; done) | (simp; omega))) rfl (by intro X h; cases h) ?_; intro w9 hM'; clear hM; have hM := hM'; clear hM'
  simp only [List.set_cons_zero, List.set_cons_succ] at hM
  replace hM : Mem _ _ w9 [_, _, _, _, _] := hM.pick [1, 0, 2, 3, 4] rfl
  refine s_storeSeg 0 hE rfl rfl hM rfl sz34 ((bv_length _).trans (by have hl_x : ([1, 0, 0, 0, 0, 0, 0, 0, 0, 0, 0, 0, 0, 0, 0, 0, 0, 0, 0, 0, 0, 0, 0, 0, 0, 0, 0, 0, 0, 0, 0, 0] ++ [2, 0, 0, 0, 0, 0, 0, 0, 0, 0, 0, 0, 0, 0, 0, 0, 0, 0, 0, 0, 0, 0, 0, 0, 0, 0, 0, 0, 0, 0, 0, 0]).length = 64 := (by have hl_x : [1, 0, 0, 0, 0, 0, 0, 0, 0, 0, 0, 0, 0, 0, 0, 0, 0, 0, 0, 0, 0, 0, 0, 0, 0, 0, 0, 0, 0, 0, 0, 0].length = 32 := (by first | (simp; done) | (simp [*]; done) | (simp; omega)); have hl_y : [2, 0, 0, 0, 0, 0, 0, 0, 0, 0, 0, 0, 0, 0, 0, 0, 0, 0, 0, 0, 0, 0, 0, 0, 0, 0, 0, 0, 0, 0, 0, 0].length = 32 := (by first | (simp; done) | (simp [*]; done) | (simp; omega)); simp [*]); simp [*])) (bv_one _) rfl ((bv_length _).trans (by first | (simp; done) | (simp [*]; done) | (simp; omega))) rfl (by intro X h; cases h) ?_; intro w10 hM'; clear hM; have hM := hM'; clear hM'
  simp only [List.set_cons_zero, List.set_cons_succ] at hM
  refine q_nil ?_
  replace hE : Env a 54 [(0, _), (1, _), (2, _), (3, _), (4, _)] := hE.sel [0, 1, 2, 3, 4] rfl
  refine hK3 _ _ ?_
  refine wp_seq_k (fun K4 hK4 => ?_)
  refine wp_treeM hM (by kernel_rfl) (fun _ => False) (fun _ => True) (.re [(0, false), (1, true), (2, false), (3, false), (4, false), (5, true), (6, true), (7, true), (8, true), (9, true), (10, true), (12, true), (13, true), (11, false), (14, false), (15, false), (16, true), (17, true), (18, true), (19, true), (23, true), (20, false), (21, false), (22, false), (24, false), (25, false), (26, false), (27, false), (28, true), (29, true), (30, true), (31, true), (32, true), (33, true), (34, true), (35, true), (36, true), (37, true), (38, true), (39, true), (40, true)] (.fl 0 (.or 0 (.cut (.re [(1, true), (2, false), (3, false), (4, false), (5, true), (6, true), (7, true), (8, true), (9, true), (10, true), (12, true), (13, true), (11, false), (14, false), (15, false), (16, true), (17, true), (18, true), (19, true), (23, true), (20, false), (21, false), (22, false), (24, false), (25, false), (26, false), (27, false), (28, true), (29, true), (30, true), (31, true), (32, true), (33, true), (34, true), (35, true), (36, true), (37, true), (38, true), (39, true), (40, true)] (.fl 1 (.or 2 (.cut (.re [(3, false), (4, false), (5, true), (6, true), (7, true), (8, true), (9, true), (10, true), (12, true), (13, true), (11, false), (14, false), (15, false), (16, true), (17, true), (18, true), (19, true), (23, true), (20, false), (21, false), (22, false), (24, false), (25, false), (26, false), (27, false), (28, true), (29, true), (30, true), (31, true), (32, true), (33, true), (34, true), (35, true), (36, true), (37, true), (38, true), (39, true), (40, true)] (.fl 0 (.cut (.or 3 (.cut (.re [(4, false), (5, true), (6, true), (7, true), (8, true), (9, true), (10, true), (12, true), (13, true), (11, false), (14, false), (15, false), (16, true), (17, true), (18, true), (19, true), (23, true), (20, false), (21, false), (22, false), (24, false), (25, false), (26, false), (27, false), (28, true), (29, true), (30, true), (31, true), (32, true), (33, true), (34, true), (35, true), (36, true), (37, true), (38, true), (39, true), (40, true)] (.fl 0 (.or 4 (.cut (.re [(5, true), (6, true), (7, true), (8, true), (9, true), (10, true), (12, true), (13, true), (11, false), (14, false), (15, false), (16, true), (17, true), (18, true), (19, true), (23, true), (20, false), (21, false), (22, false), (24, false), (25, false), (26, false), (27, false), (28, true), (29, true), (30, true), (31, true), (32, true), (33, true), (34, true), (35, true), (36, true), (37, true), (38, true), (39, true), (40, true)] (.fl 8 (.or 11 (.re [(14, false), (15, false), (16, true), (17, true), (18, true), (19, true), (23, true), (20, false), (21, false), (22, false), (24, false), (25, false), (26, false), (27, false), (28, true), (29, true), (30, true), (31, true), (32, true), (33, true), (34, true), (35, true), (36, true), (37, true), (38, true), (39, true), (40, true)] (.fl 0 (.or 14 (.cut (.re [(15, false), (16, true), (17, true), (18, true), (19, true), (23, true), (20, false), (21, false), (22, false), (24, false), (25, false), (26, false), (27, false), (28, true), (29, true), (30, true), (31, true), (32, true), (33, true), (34, true), (35, true), (36, true), (37, true), (38, true), (39, true), (40, true)] (.fl 0 (.or 15 (.cut (.re [(16, true), (17, true), (18, true), (19, true), (23, true), (20, false), (21, false), (22, false), (24, false), (25, false), (26, false), (27, false), (28, true), (29, true), (30, true), (31, true), (32, true), (33, true), (34, true), (35, true), (36, true), (37, true), (38, true), (39, true), (40, true)] (.fl 5 (.or 20 (.re [(21, false), (22, false), (24, false), (25, false), (26, false), (27, false), (28, true), (29, true), (30, true), (31, true), (32, true), (33, true), (34, true), (35, true), (36, true), (37, true), (38, true), (39, true), (40, true)] (.fl 0 (.or 21 (.re [(22, false), (24, false), (25, false), (26, false), (27, false), (28, true), (29, true), (30, true), (31, true), (32, true), (33, true), (34, true), (35, true), (36, true), (37, true), (38, true), (39, true), (40, true)] (.fl 0 (.or 22 (.re [(24, false), (25, false), (26, false), (27, false), (28, true), (29, true), (30, true), (31, true), (32, true), (33, true), (34, true), (35, true), (36, true), (37, true), (38, true), (39, true), (40, true)] (.fl 0 (.or 24 (.re [(25, false), (26, false), (27, false), (28, true), (29, true), (30, true), (31, true), (32, true), (33, true), (34, true), (35, true), (36, true), (37, true), (38, true), (39, true), (40, true)] (.fl 0 (.or 25 (.re [(26, false), (27, false), (28, true), (29, true), (30, true), (31, true), (32, true), (33, true), (34, true), (35, true), (36, true), (37, true), (38, true), (39, true), (40, true)] (.leaf 15)) (.stop)))) (.stop)))) (.or 24 (.re [(22, false), (25, false), (26, false), (27, false), (28, true), (29, true), (30, true), (31, true), (32, true), (33, true), (34, true), (35, true), (36, true), (37, true), (38, true), (39, true), (40, true)] (.fl 0 (.or 22 (.re [(25, false), (26, false), (27, false), (28, true), (29, true), (30, true), (31, true), (32, true), (33, true), (34, true), (35, true), (36, true), (37, true), (38, true), (39, true), (40, true)] (.fl 0 (.or 25 (.re [(26, false), (27, false), (28, true), (29, true), (30, true), (31, true), (32, true), (33, true), (34, true), (35, true), (36, true), (37, true), (38, true), (39, true), (40, true)] (.leaf 15)) (.stop)))) (.or 25 (.re [(22, false), (26, false), (27, false), (28, true), (29, true), (30, true), (31, true), (32, true), (33, true), (34, true), (35, true), (36, true), (37, true), (38, true), (39, true), (40, true)] (.leaf 16)) (.stop))))) (.stop))))) (.or 24 (.re [(21, false), (22, false), (25, false), (26, false), (27, false), (28, true), (29, true), (30, true), (31, true), (32, true), (33, true), (34, true), (35, true), (36, true), (37, true), (38, true), (39, true), (40, true)] (.fl 0 (.or 21 (.re [(22, false), (25, false), (26, false), (27, false), (28, true), (29, true), (30, true), (31, true), (32, true), (33, true), (34, true), (35, true), (36, true), (37, true), (38, true), (39, true), (40, true)] (.fl 0 (.or 22 (.re [(25, false), (26, false), (27, false), (28, true), (29, true), (30, true), (31, true), (32, true), (33, true), (34, true), (35, true), (36, true), (37, true), (38, true), (39, true), (40, true)] (.fl 0 (.or 25 (.re [(26, false), (27, false), (28, true), (29, true), (30, true), (31, true), (32, true), (33, true), (34, true), (35, true), (36, true), (37, true), (38, true), (39, true), (40, true)] (.leaf 15)) (.stop)))) (.or 25 (.re [(22, false), (26, false), (27, false), (28, true), (29, true), (30, true), (31, true), (32, true), (33, true), (34, true), (35, true), (36, true), (37, true), (38, true), (39, true), (40, true)] (.leaf 16)) (.stop))))) (.or 25 (.re [(21, false), (22, false), (26, false), (27, false), (28, true), (29, true), (30, true), (31, true), (32, true), (33, true), (34, true), (35, true), (36, true), (37, true), (38, true), (39, true), (40, true)] (.fl 0 (.or 21 (.re [(22, false), (26, false), (27, false), (28, true), (29, true), (30, true), (31, true), (32, true), (33, true), (34, true), (35, true), (36, true), (37, true), (38, true), (39, true), (40, true)] (.leaf 16)) (.stop)))) (.stop))))) (.stop))))) (.or 24 (.re [(20, false), (21, false), (22, false), (25, false), (26, false), (27, false), (28, true), (29, true), (30, true), (31, true), (32, true), (33, true), (34, true), (35, true), (36, true), (37, true), (38, true), (39, true), (40, true)] (.fl 0 (.or 20 (.re [(21, false), (22, false), (25, false), (26, false), (27, false), (28, true), (29, true), (30, true), (31, true), (32, true), (33, true), (34, true), (35, true), (36, true), (37, true), (38, true), (39, true), (40, true)] (.fl 0 (.or 21 (.re [(22, false), (25, false), (26, false), (27, false), (28, true), (29, true), (30, true), (31, true), (32, true), (33, true), (34, true), (35, true), (36, true), (37, true), (38, true), (39, true), (40, true)] (.fl 0 (.or 22 (.re [(25, false), (26, false), (27, false), (28, true), (29, true), (30, true), (31, true), (32, true), (33, true), (34, true), (35, true), (36, true), (37, true), (38, true), (39, true), (40, true)] (.fl 0 (.or 25 (.re [(26, false), (27, false), (28, true), (29, true), (30, true), (31, true), (32, true), (33, true), (34, true), (35, true), (36, true), (37, true), (38, true), (39, true), (40, true)] (.leaf 15)) (.stop)))) (.or 25 (.re [(22, false), (26, false), (27, false), (28, true), (29, true), (30, true), (31, true), (32, true), (33, true), (34, true), (35, true), (36, true), (37, true), (38, true), (39, true), (40, true)] (.leaf 16)) (.stop))))) (.or 25 (.re [(21, false), (22, false), (26, false), (27, false), (28, true), (29, true), (30, true), (31, true), (32, true), (33, true), (34, true), (35, true), (36, true), (37, true), (38, true), (39, true), (40, true)] (.fl 0 (.or 21 (.re [(22, false), (26, false), (27, false), (28, true), (29, true), (30, true), (31, true), (32, true), (33, true), (34, true), (35, true), (36, true), (37, true), (38, true), (39, true), (40, true)] (.leaf 16)) (.stop)))) (.stop))))) (.or 25 (.re [(20, false), (21, false), (22, false), (26, false), (27, false), (28, true), (29, true), (30, true), (31, true), (32, true), (33, true), (34, true), (35, true), (36, true), (37, true), (38, true), (39, true), (40, true)] (.fl 0 (.or 20 (.re [(21, false), (22, false), (26, false), (27, false), (28, true), (29, true), (30, true), (31, true), (32, true), (33, true), (34, true), (35, true), (36, true), (37, true), (38, true), (39, true), (40, true)] (.fl 0 (.or 21 (.re [(22, false), (26, false), (27, false), (28, true), (29, true), (30, true), (31, true), (32, true), (33, true), (34, true), (35, true), (36, true), (37, true), (38, true), (39, true), (40, true)] (.leaf 16)) (.stop)))) (.stop)))) (.stop))))) (.stop)))))) (.stop))))) (.stop)))) (.stop))))) (.stop))))) (.stop)))))) (.stop))))) (.stop)))) [(0, false), (1, true), (2, false), (3, false), (4, false), (5, true), (6, true), (7, true), (8, true), (9, true), (10, true), (12, true), (13, true), (11, false), (14, false), (15, false), (16, true), (17, true), (18, true), (19, true), (23, true), (20, false), (21, false), (22, false), (24, false), (25, false), (26, false), (27, false), (28, true), (29, true), (30, true), (31, true), (32, true), (33, true), (34, true), (35, true), (36, true), (37, true), (38, true), (39, true), (40, true)] [(0, [(1, 0), (2, 1), (3, 1), (4, 1), (5, 1), (6, 1), (7, 1), (8, 4), (9, 8), (10, 8), (11, 8), (12, 8), (13, 8), (14, 8), (15, 8), (16, 8), (17, 8), (18, 17), (19, 18), (20, 18), (21, 18), (22, 18), (23, 18), (24, 18), (25, 24), (26, 25), (27, 26), (28, 18), (29, 18), (30, 27), (31, 30), (32, 30), (33, 32), (34, 33), (35, 34), (36, 35), (37, 35), (38, 35), (39, 35), (40, 0)]), (2, [(3, 2), (4, 3), (5, 4), (6, 5), (7, 6), (8, 4), (9, 8), (10, 8), (11, 8), (12, 8), (13, 8), (14, 8), (15, 8), (16, 8), (17, 8), (18, 17), (19, 18), (20, 18), (21, 18), (22, 18), (23, 18), (24, 18), (25, 24), (26, 25), (27, 26), (28, 18), (29, 18), (30, 27), (31, 30), (32, 30), (33, 32), (34, 33), (35, 34), (36, 35), (37, 35), (38, 35), (39, 35), (40, 2)]), (3, [(4, 3), (5, 4), (6, 5), (7, 6), (8, 4), (9, 8), (10, 8), (11, 8), (12, 8), (13, 8), (14, 8), (15, 8), (16, 8), (17, 8), (18, 17), (19, 18), (20, 18), (21, 18), (22, 18), (23, 18), (24, 18), (25, 24), (26, 25), (27, 26), (28, 18), (29, 18), (30, 27), (31, 30), (32, 30), (33, 32), (34, 33), (35, 34), (36, 35), (37, 35), (38, 35), (39, 35), (40, 3)]), (4, [(5, 4), (6, 5), (7, 6), (8, 4), (9, 8), (10, 8), (11, 8), (12, 8), (13, 8), (14, 8), (15, 8), (16, 8), (17, 8), (18, 17), (19, 18), (20, 18), (21, 18), (22, 18), (23, 18), (24, 18), (25, 24), (26, 25), (27, 26), (28, 18), (29, 18), (30, 27), (31, 30), (32, 30), (33, 32), (34, 33), (35, 34), (36, 35), (37, 35), (38, 35), (39, 35), (40, 4)]), (5, [(6, 5), (7, 6), (8, 7), (9, 8), (10, 8), (11, 8), (12, 8), (13, 8), (14, 8), (15, 8), (16, 8), (17, 8), (18, 17), (19, 18), (20, 18), (21, 18), (22, 18), (23, 18), (24, 18), (25, 24), (26, 25), (27, 26), (28, 18), (29, 18), (30, 27), (31, 30), (32, 30), (33, 32), (34, 33), (35, 34), (36, 35), (37, 35), (38, 35), (39, 35), (40, 5)]), (6, [(7, 6), (8, 7), (9, 8), (10, 8), (11, 8), (12, 8), (13, 8), (14, 8), (15, 8), (16, 8), (17, 8), (18, 17), (19, 18), (20, 18), (21, 18), (22, 18), (23, 18), (24, 18), (25, 24), (26, 25), (27, 26), (28, 18), (29, 18), (30, 27), (31, 30), (32, 30), (33, 32), (34, 33), (35, 34), (36, 35), (37, 35), (38, 35), (39, 35), (40, 6)]), (7, [(8, 7), (9, 8), (10, 8), (11, 8), (12, 8), (13, 8), (14, 8), (15, 8), (16, 8), (17, 8), (18, 17), (19, 18), (20, 18), (21, 18), (22, 18), (23, 18), (24, 18), (25, 24), (26, 25), (27, 26), (28, 18), (29, 18), (30, 27), (31, 30), (32, 30), (33, 32), (34, 33), (35, 34), (36, 35), (37, 35), (38, 35), (39, 35), (40, 7)]), (9, [(11, 9), (14, 11), (15, 14), (16, 11), (17, 16), (18, 17), (19, 18), (20, 18), (21, 18), (22, 18), (23, 18), (24, 18), (25, 24), (26, 25), (27, 26), (28, 18), (29, 18), (30, 27), (31, 30), (32, 30), (33, 32), (34, 33), (35, 34), (36, 35), (37, 35), (38, 35), (39, 35), (40, 9)]), (10, [(11, 10), (14, 11), (15, 14), (16, 11), (17, 16), (18, 17), (19, 18), (20, 18), (21, 18), (22, 18), (23, 18), (24, 18), (25, 24), (26, 25), (27, 26), (28, 18), (29, 18), (30, 27), (31, 30), (32, 30), (33, 32), (34, 33), (35, 34), (36, 35), (37, 35), (38, 35), (39, 35), (40, 10)]), (11, [(14, 11), (15, 14), (16, 11), (17, 16), (18, 17), (19, 18), (20, 18), (21, 18), (22, 18), (23, 18), (24, 18), (25, 24), (26, 25), (27, 26), (28, 18), (29, 18), (30, 27), (31, 30), (32, 30), (33, 32), (34, 33), (35, 34), (36, 35), (37, 35), (38, 35), (39, 35), (40, 11)]), (12, [(15, 12), (16, 15), (17, 16), (18, 17), (19, 18), (20, 18), (21, 18), (22, 18), (23, 18), (24, 18), (25, 24), (26, 25), (27, 26), (28, 18), (29, 18), (30, 27), (31, 30), (32, 30), (33, 32), (34, 33), (35, 34), (36, 35), (37, 35), (38, 35), (39, 35), (40, 12)]), (13, [(14, 13), (15, 14), (16, 15), (17, 16), (18, 17), (19, 18), (20, 18), (21, 18), (22, 18), (23, 18), (24, 18), (25, 24), (26, 25), (27, 26), (28, 18), (29, 18), (30, 27), (31, 30), (32, 30), (33, 32), (34, 33), (35, 34), (36, 35), (37, 35), (38, 35), (39, 35), (40, 13)]), (14, [(15, 14), (16, 15), (17, 16), (18, 17), (19, 18), (20, 18), (21, 18), (22, 18), (23, 18), (24, 18), (25, 24), (26, 25), (27, 26), (28, 18), (29, 18), (30, 27), (31, 30), (32, 30), (33, 32), (34, 33), (35, 34), (36, 35), (37, 35), (38, 35), (39, 35), (40, 14)]), (15, [(16, 15), (17, 16), (18, 15), (19, 18), (20, 18), (21, 18), (22, 18), (23, 18), (24, 18), (25, 24), (26, 25), (27, 26), (28, 18), (29, 18), (30, 27), (31, 30), (32, 30), (33, 32), (34, 33), (35, 34), (36, 35), (37, 35), (38, 35), (39, 35), (40, 15)]), (20, [(21, 20), (22, 21), (26, 22), (27, 26), (28, 27), (29, 28), (30, 27), (31, 30), (32, 30), (33, 32), (34, 33), (35, 34), (36, 35), (37, 35), (38, 35), (39, 35), (40, 20)]), (21, [(22, 21), (26, 22), (27, 26), (28, 27), (29, 28), (30, 27), (31, 30), (32, 30), (33, 32), (34, 33), (35, 34), (36, 35), (37, 35), (38, 35), (39, 35), (40, 21)]), (22, [(26, 22), (27, 26), (28, 22), (29, 28), (30, 27), (31, 30), (32, 30), (33, 32), (34, 33), (35, 34), (36, 35), (37, 35), (38, 35), (39, 35), (40, 22)]), (24, [(25, 24), (26, 25), (27, 26), (28, 27), (29, 28), (30, 27), (31, 30), (32, 30), (33, 32), (34, 33), (35, 34), (36, 35), (37, 35), (38, 35), (39, 35), (40, 24)]), (25, [(26, 25), (27, 26), (28, 27), (29, 28), (30, 27), (31, 30), (32, 30), (33, 32), (34, 33), (35, 34), (36, 35), (37, 35), (38, 35), (39, 35), (40, 25)]), (26, [(27, 26), (28, 27), (29, 28), (30, 27), (31, 30), (32, 30), (33, 32), (34, 33), (35, 34), (36, 35), (37, 35), (38, 35), (39, 35), (40, 26)]), (27, [(28, 27), (29, 28), (30, 27), (31, 30), (32, 30), (33, 32), (34, 33), (35, 34), (36, 35), (37, 35), (38, 35), (39, 35), (40, 27)])] (by kernel_rfl) ?_
  intro w11 hM' hww11; clear hM; have hM := hM'; clear hM'
  refine o_re ?_
  refine o_fl rfl ?_
  refine q_nil (q_nx ?_)
  refine o_or rfl ?_ ?_
  · refine s_call hE rfl Tryd.call31 (bawake17_c _) rfl ?_
    rintro e w12 ⟨rfl, hN⟩
    refine ⟨_, rfl, hN.sta0 _, ?_⟩; clear hE a; intro a hE
    replace hM : Mem _ _ w12 [_, _, _, _, _] := hM.call0 hN trivial; clear hN
    refine q_nil (q_nx ?_)
    refine o_cut (fun _ => False) ?_
    refine o_re ?_
    refine o_fl rfl ?_
    refine s_move hE rfl rfl ?_; clear hE a; intro a hE
    refine q_nil (q_nx ?_)
    refine o_or rfl ?_ ?_
    · refine g_yes hE rfl rfl ?_
      refine s_buildSlice (xs := [.const (.int .u8 97), .const (.int .u8 98)]) (bv [97, 98]) hE hM sl74 rfl rfl rfl (by intro v hv; first | (cases hv; done) | (obtain ⟨x, _, rfl⟩ := List.mem_map.1 (show v ∈ bv [97, 98] from hv); rfl)) rfl rfl rfl rfl ?_; clear hE a; intro a v16 w13 hE hM'
      clear hM; have hM := hM'; clear hM'
      replace hM := hM.ownEq (m' := [97, 98].length) (cs' := bv [97, 98]) rfl rfl
      refine q_nil (q_nx ?_)
      refine o_cut (fun _ => False) ?_
      refine o_re ?_
      refine o_fl rfl ?_
      refine q_nil (q_nx ?_)
      refine o_cut (fun b => b ∈ valBlocks v16) ?_
      refine o_or rfl ?_ ?_
      · refine g_yes hE rfl rfl ?_
        refine s_convSame hE rfl hM Tryd.underlying74 Tryd.underlying5 (by have hl_ : [97, 98].length = 2 := (by first | (simp; done) | (simp [*]; done) | (simp; omega)); first | omega | decide | (simp; done) | (simp; omega)) (by intro X h; cases h; exact fun _ hb => hb) rfl ?_; clear hE a; intro a w14 hE hM'; clear hM; have hM := hM'; clear hM'
        refine q_nil (q_nx ?_)
        refine o_cut (fun _ => False) ?_
        refine o_re ?_
        refine o_fl rfl ?_
        refine q_nil (q_nx ?_)
        refine o_or rfl ?_ ?_
        · refine g_yes hE rfl rfl ?_
          obtain ⟨cq1, hq1⟩ := own_rd (hM.get 0 rfl)
          refine s_call hE rfl Tryd.call34 (bbodytext_c _ [97, 98] _ _ hq1 (by first | omega | assumption | (simp; done) | (simp; omega) | decide)) rfl ?_
          rintro e w15 ⟨v18, rfl, hN⟩
          refine ⟨_, rfl, hN.sta0 _, ?_⟩; clear hE a; intro a hE
          replace hM : Mem _ _ w15 [_, _, _, _, _, _, _] := hM.call0 hN ⟨rfl, trivial⟩; clear hN
          refine q_nil (q_nx ?_)
          refine o_cut (fun _ => False) ?_
          refine o_re ?_
          refine o_fl rfl ?_
          refine g_yes hE rfl rfl ?_
          obtain ⟨cs19, hs19⟩ := own_rd (hM.get 0 rfl)
          refine s_toStr hE rfl Tryd.underlying74 Tryd.underlying5 Tryd.underlying9 hs19 (by intro X h; cases h; simp) rfl ?_; clear hE a; intro a hE
          refine g_yes hE rfl rfl ?_
          refine s_bin hE rfl rfl bins_str.1 rfl ?_; clear hE a; intro a hE
          refine s_pickt hE rfl rfl rfl ?_; clear hE a; intro a hE
          refine s_move hE rfl rfl ?_; clear hE a; intro a hE
          replace hE := hE.cast 22 rfl (show _ = Value.bool true from (congrArg Value.bool (by first | (with_reducible exact decide_eq_true rfl) | decide +kernel | (simp; done) | (simp [*]; done))))
          refine g_yes hE rfl rfl ?_
          refine s_loadN hE rfl (hM.get 5 rfl) row23 rfl (by intro X h; cases h; simp) rfl ?_; clear hE a; intro a hE
          refine g_yes hE rfl rfl ?_
          refine s_loadN hE rfl (hM.get 4 rfl) row52 rfl (by intro X h; cases h; simp) rfl ?_; clear hE a; intro a hE
          refine g_yes hE rfl rfl ?_
          refine s_sliceArr (l := 0) (h := 32) (mx' := 32) hE rfl arr23 rfl rfl rfl (by simp) (by omega) (by omega) (by omega) rfl ?_; clear hE a; intro a hE
          replace hE := hE.cast 26 rfl (show _ = Value.slice (some ⟨b1, 0, none⟩) 32 32 from rfl)
          refine g_yes hE rfl rfl ?_
          refine s_loadN hE rfl (hM.get 4 rfl) row52 rfl (by intro X h; cases h; simp) rfl ?_; clear hE a; intro a hE
          refine q_nil (q_nx ?_)
          refine o_or rfl ?_ ?_
          · refine g_yes hE rfl rfl ?_
            refine s_call hE rfl Tryd.call19 (tnode_c [3, 0, 0, 0, 0, 0, 0, 0, 0, 0, 0, 0, 0, 0, 0, 0, 0, 0, 0, 0, 0, 0, 0, 0, 0, 0, 0, 0, 0, 0, 0, 0] 1 [1, 0, 0, 0, 0, 0, 0, 0, 0, 0, 0, 0, 0, 0, 0, 0, 0, 0, 0, 0, 0, 0, 0, 0, 0, 0, 0, 0, 0, 0, 0, 0, 0, 0, 0, 0, 0, 0, 0, 0, 0, 0, 0, 0, 0, 0, 0, 0, 0, 0, 0, 0, 0, 0, 0, 0, 0, 0, 0, 0, 0, 0, 0, 2] _ (hM.get 6 rfl) (by have hl_ : [3, 0, 0, 0, 0, 0, 0, 0, 0, 0, 0, 0, 0, 0, 0, 0, 0, 0, 0, 0, 0, 0, 0, 0, 0, 0, 0, 0, 0, 0, 0, 0].length = 32 := (by first | (simp; done) | (simp [*]; done) | (simp; omega)); first | assumption | (simp; done)) (by have hl_ : [1, 0, 0, 0, 0, 0, 0, 0, 0, 0, 0, 0, 0, 0, 0, 0, 0, 0, 0, 0, 0, 0, 0, 0, 0, 0, 0, 0, 0, 0, 0, 0, 0, 0, 0, 0, 0, 0, 0, 0, 0, 0, 0, 0, 0, 0, 0, 0, 0, 0, 0, 0, 0, 0, 0, 0, 0, 0, 0, 0, 0, 0, 0, 2].length = 64 := (by first | (simp; done) | (simp [*]; done) | (simp; omega)); first | assumption | (simp; done))) rfl ?_
            rintro e w16 ⟨rfl, hN⟩
            refine ⟨_, rfl, hN.sta0 _, ?_⟩; clear hE a; intro a hE
            replace hM : Mem _ _ w16 [_, _, _, _, _, _, _] := hM.call0 hN trivial; clear hN
            refine q_nil (q_nx ?_)
            refine o_re ?_
            refine o_fl rfl ?_
            refine q_nil (q_nx ?_)
            refine o_or rfl ?_ ?_
            · refine g_yes hE rfl rfl ?_
              refine s_call hE rfl Tryd.call46 (bnodetext_c 1 [1, 0, 0, 0, 0, 0, 0, 0, 0, 0, 0, 0, 0, 0, 0, 0, 0, 0, 0, 0, 0, 0, 0, 0, 0, 0, 0, 0, 0, 0, 0, 0, 0, 0, 0, 0, 0, 0, 0, 0, 0, 0, 0, 0, 0, 0, 0, 0, 0, 0, 0, 0, 0, 0, 0, 0, 0, 0, 0, 0, 0, 0, 0, 2] _ (by first | omega | assumption | (simp; done) | (simp; omega) | decide)) rfl ?_
              rintro e w17 ⟨v28, rfl, hN⟩
              refine ⟨_, rfl, hN.sta0 _, ?_⟩; clear hE a; intro a hE
              replace hM : Mem _ _ w17 [_, _, _, _, _, _, _, _] := hM.call0 hN ⟨rfl, trivial⟩; clear hN
              refine q_nil (q_nx ?_)
              refine o_cut (fun _ => False) ?_
              refine o_re ?_
              refine o_fl rfl ?_
              refine q_nil (q_nx ?_)
              refine o_or rfl ?_ ?_
              · refine g_yes hE rfl rfl ?_
                obtain ⟨cq2, hq2⟩ := own_rd (hM.get 0 rfl)
                refine s_call hE rfl Tryd.call45 (of_c _ _ [3, 0, 0, 0, 0, 0, 0, 0, 0, 0, 0, 0, 0, 0, 0, 0, 0, 0, 0, 0, 0, 0, 0, 0, 0, 0, 0, 0, 0, 0, 0, 0] (numT 78 1 [1, 0, 0, 0, 0, 0, 0, 0, 0, 0, 0, 0, 0, 0, 0, 0, 0, 0, 0, 0, 0, 0, 0, 0, 0, 0, 0, 0, 0, 0, 0, 0, 0, 0, 0, 0, 0, 0, 0, 0, 0, 0, 0, 0, 0, 0, 0, 0, 0, 0, 0, 0, 0, 0, 0, 0, 0, 0, 0, 0, 0, 0, 0, 2]) _ _ _ (hM.get 7 rfl) (rd_of_arr (hM.get 6 rfl) (by first | (simp; done) | (simp [*]; done) | (simp; omega))) hq2 (by first | omega | assumption | (simp; done) | (simp; omega) | decide) (by first | omega | assumption | (simp; done) | (simp; omega) | decide)) rfl ?_
                rintro e w18 ⟨rfl, hN⟩
                refine ⟨_, rfl, hN.sta0 _, ?_⟩; clear hE a; intro a hE
                replace hM : Mem _ _ w18 [_, _, _, _, _, _, _, _] := hM.call0 hN trivial; clear hN
                refine q_nil (q_nx ?_)
                refine o_cut (fun b => b ≠ b1 ∧ b ≠ b3 ∧ b ≠ b4) ?_
                refine o_re ?_
                refine o_fl rfl ?_
                refine g_yes hE rfl rfl ?_
                refine s_bin hE rfl rfl (eqa34 (by first | simp | assumption) (by first | simp | assumption)).1 rfl ?_; clear hE a; intro a hE
                refine s_pickt hE rfl rfl rfl ?_; clear hE a; intro a hE
                refine s_move hE rfl rfl ?_; clear hE a; intro a hE
                replace hE := hE.cast 32 rfl (show _ = Value.bool true from (congrArg Value.bool (by first | (with_reducible exact decide_eq_true rfl) | decide +kernel | (simp; done) | (simp [*]; done))))
                refine g_yes hE rfl rfl ?_
                refine s_loadN hE rfl (hM.get 6 rfl) row23 rfl (by intro X h; cases h; simp) rfl ?_; clear hE a; intro a hE
                refine g_yes hE rfl rfl ?_
                refine s_sliceArr (l := 0) (h := 32) (mx' := 32) hE rfl arr23 rfl rfl rfl (by simp) (by omega) (by omega) (by omega) rfl ?_; clear hE a; intro a hE
                replace hE := hE.cast 37 rfl (show _ = Value.slice (some ⟨b1, 0, none⟩) 32 32 from rfl)
                refine q_nil (q_nx ?_)
                refine o_or rfl ?_ ?_
                · refine g_yes hE rfl rfl ?_
                  refine s_buildSlice (xs := [.const (.int .u8 98)]) (bv [98]) hE hM sl74 rfl rfl rfl (by intro v hv; first | (cases hv; done) | (obtain ⟨x, _, rfl⟩ := List.mem_map.1 (show v ∈ bv [98] from hv); rfl)) rfl rfl rfl rfl ?_; clear hE a; intro a v34 w19 hE hM'
                  clear hM; have hM := hM'; clear hM'
                  replace hM := hM.ownEq (m' := [98].length) (cs' := bv [98]) rfl rfl
                  refine q_nil (q_nx ?_)
                  refine o_re ?_
                  refine o_fl rfl ?_
                  refine q_nil (q_nx ?_)
                  refine o_or rfl ?_ ?_
                  · refine g_yes hE rfl rfl ?_
                    refine s_convSame hE rfl hM Tryd.underlying74 Tryd.underlying5 (by have hl_ : [98].length = 1 := (by first | (simp; done) | (simp [*]; done) | (simp; omega)); first | omega | decide | (simp; done) | (simp; omega)) (by intro X h; cases h; intro b hb; exact ⟨fun e => ((apart_of_get hM.apart (i := 0) (j := 7) rfl rfl (by decide)).1 b hb).1 (by rw [e]; exact .head _), fun e => ((apart_of_get hM.apart (i := 0) (j := 5) rfl rfl (by decide)).1 b hb).1 (by rw [e]; exact .head _), fun e => ((apart_of_get hM.apart (i := 0) (j := 4) rfl rfl (by decide)).1 b hb).1 (by rw [e]; exact .head _)⟩) rfl ?_; clear hE a; intro a w20 hE hM'; clear hM; have hM := hM'; clear hM'
                    refine q_nil (q_nx ?_)
                    refine o_re ?_
                    refine o_fl rfl ?_
                    refine q_nil (q_nx ?_)
                    refine o_or rfl ?_ ?_
                    · refine g_yes hE rfl rfl ?_
                      obtain ⟨cq3, hq3⟩ := own_rd (hM.get 0 rfl)
                      refine s_call hE rfl Tryd.call38 (thead_c [3, 0, 0, 0, 0, 0, 0, 0, 0, 0, 0, 0, 0, 0, 0, 0, 0, 0, 0, 0, 0, 0, 0, 0, 0, 0, 0, 0, 0, 0, 0, 0] _ [98] _ _ (hM.get 8 rfl) (by have hl_ : [3, 0, 0, 0, 0, 0, 0, 0, 0, 0, 0, 0, 0, 0, 0, 0, 0, 0, 0, 0, 0, 0, 0, 0, 0, 0, 0, 0, 0, 0, 0, 0].length = 32 := (by first | (simp; done) | (simp [*]; done) | (simp; omega)); first | assumption | (simp; done)) hq3 (by have hl_0 : [3, 0, 0, 0, 0, 0, 0, 0, 0, 0, 0, 0, 0, 0, 0, 0, 0, 0, 0, 0, 0, 0, 0, 0, 0, 0, 0, 0, 0, 0, 0, 0].length = 32 := (by first | (simp; done) | (simp [*]; done) | (simp; omega)); have hl_1 : [98].length = 1 := (by first | (simp; done) | (simp [*]; done) | (simp; omega)); first | omega | assumption | (simp; done) | (simp; omega) | decide)) rfl ?_
                      rintro e w21 ⟨rfl, hN⟩
                      refine ⟨_, rfl, hN.sta0 _, ?_⟩; clear hE a; intro a hE
                      replace hM : Mem _ _ w21 [_, _, _, _, _, _, _, _, _] := hM.call0 hN trivial; clear hN
                      refine q_nil (q_nx ?_)
                      refine o_re ?_
                      refine o_fl rfl ?_
                      refine q_nil (q_nx ?_)
                      refine o_or rfl ?_ ?_
                      · refine g_yes hE rfl rfl ?_
                        refine s_buildSlice (xs := [.const (.int .u8 98)]) (bv [98]) hE hM sl74 rfl rfl rfl (by intro v hv; first | (cases hv; done) | (obtain ⟨x, _, rfl⟩ := List.mem_map.1 (show v ∈ bv [98] from hv); rfl)) rfl rfl rfl rfl ?_; clear hE a; intro a v38 w22 hE hM'
                        clear hM; have hM := hM'; clear hM'
                        replace hM := hM.ownEq (m' := [98].length) (cs' := bv [98]) rfl rfl
                        refine q_nil (q_nx ?_)
                        refine o_re ?_
                        refine o_fl rfl ?_
                        refine q_nil (q_nx ?_)
                        refine o_or rfl ?_ ?_
                        · refine g_yes hE rfl rfl ?_
                          refine s_convSame hE rfl hM Tryd.underlying74 Tryd.underlying5 (by have hl_ : [98].length = 1 := (by first | (simp; done) | (simp [*]; done) | (simp; omega)); first | omega | decide | (simp; done) | (simp; omega)) (by intro X h; cases h; intro b hb; exact ⟨fun e => ((apart_of_get hM.apart (i := 0) (j := 8) rfl rfl (by decide)).1 b hb).1 (by rw [e]; exact .head _), fun e => ((apart_of_get hM.apart (i := 0) (j := 6) rfl rfl (by decide)).1 b hb).1 (by rw [e]; exact .head _), fun e => ((apart_of_get hM.apart (i := 0) (j := 5) rfl rfl (by decide)).1 b hb).1 (by rw [e]; exact .head _)⟩) rfl ?_; clear hE a; intro a w23 hE hM'; clear hM; have hM := hM'; clear hM'
                          refine q_nil (q_nx ?_)
                          refine o_re ?_
                          refine o_leaf rfl rfl ?_
                          refine g_yes hE rfl rfl ?_
                          obtain ⟨cq4, hq4⟩ := own_rd (hM.get 0 rfl)
                          refine s_call hE rfl Tryd.call33 (bheadtext_c _ [98] _ _ hq4 (by first | omega | assumption | (simp; done) | (simp; omega) | decide)) rfl ?_
                          rintro e w24 ⟨v40, rfl, hN⟩
                          refine ⟨_, rfl, hN.sta0 _, ?_⟩; clear hE a; intro a hE
                          replace hM : Mem _ _ w24 [_, _, _, _, _, _, _, _, _, _, _] := hM.call0 hN ⟨rfl, trivial⟩; clear hN
                          refine g_yes hE rfl rfl ?_
                          obtain ⟨cq5, hq5⟩ := own_rd (hM.get 0 rfl)
                          refine s_call hE rfl Tryd.call45 (of_c _ _ [3, 0, 0, 0, 0, 0, 0, 0, 0, 0, 0, 0, 0, 0, 0, 0, 0, 0, 0, 0, 0, 0, 0, 0, 0, 0, 0, 0, 0, 0, 0, 0] (plT 72 [98]) _ _ _ (hM.get 10 rfl) (rd_of_arr (hM.get 9 rfl) (by first | (simp; done) | (simp [*]; done) | (simp; omega))) hq5 (by first | omega | assumption | (simp; done) | (simp; omega) | decide) (by first | omega | assumption | (simp; done) | (simp; omega) | decide)) rfl ?_
                          rintro e w25 ⟨rfl, hN⟩
                          refine ⟨_, rfl, hN.sta0 _, ?_⟩; clear hE a; intro a hE
                          replace hM : Mem _ _ w25 [_, _, _, _, _, _, _, _, _, _, _] := hM.call0 hN trivial; clear hN
                          refine g_yes hE rfl rfl ?_
                          refine s_bin hE rfl rfl (eqa34 (by first | simp | assumption) (by first | simp | assumption)).1 rfl ?_; clear hE a; intro a hE
                          refine s_pickt hE rfl rfl rfl ?_; clear hE a; intro a hE
                          refine s_move hE rfl rfl ?_; clear hE a; intro a hE
                          replace hE := hE.cast 44 rfl (show _ = Value.bool true from (congrArg Value.bool (by first | (with_reducible exact decide_eq_true rfl) | decide +kernel | (simp; done) | (simp [*]; done))))
                          refine g_yes hE rfl rfl ?_
                          refine s_loadN hE rfl (hM.get 7 rfl) row34 rfl (by intro X h; cases h; simp) rfl ?_; clear hE a; intro a hE
                          refine g_yes hE rfl rfl ?_
                          refine s_build (r := .agg (bv [1, 0, 0, 0, 0, 0, 0, 0, 0, 0, 0, 0, 0, 0, 0, 0, 0, 0, 0, 0, 0, 0, 0, 0, 0, 0, 0, 0, 0, 0, 0, 0]).toArray) _ hE rfl (fun w => by kernel_rfl) rfl ?_; clear hE a; intro a hE
                          refine g_yes hE rfl rfl ?_
                          refine s_bin hE rfl rfl (eqa34 (by first | simp | assumption) (by first | simp | assumption)).1 rfl ?_; clear hE a; intro a hE
                          refine s_pickt hE rfl rfl rfl ?_; clear hE a; intro a hE
                          refine s_move hE rfl rfl ?_; clear hE a; intro a hE
                          replace hE := hE.cast 49 rfl (show _ = Value.bool true from (congrArg Value.bool (by first | (with_reducible exact decide_eq_true rfl) | decide +kernel | (simp; done) | (simp [*]; done))))
                          refine g_yes hE rfl rfl ?_
                          refine s_loadN hE rfl (hM.get 6 rfl) row34 rfl (by intro X h; cases h; simp) rfl ?_; clear hE a; intro a hE
                          refine g_yes hE rfl rfl ?_
                          refine s_build (r := .agg (bv [2, 0, 0, 0, 0, 0, 0, 0, 0, 0, 0, 0, 0, 0, 0, 0, 0, 0, 0, 0, 0, 0, 0, 0, 0, 0, 0, 0, 0, 0, 0, 0]).toArray) _ hE rfl (fun w => by kernel_rfl) rfl ?_; clear hE a; intro a hE
                          refine g_yes hE rfl rfl ?_
                          refine s_bin hE rfl rfl (eqa34 (by first | simp | assumption) (by first | simp | assumption)).1 rfl ?_; clear hE a; intro a hE
                          refine s_pickt hE rfl rfl rfl ?_; clear hE a; intro a hE
                          refine s_assign hE rfl rfl ?_; clear hE a; intro a hE
                          refine q_nil (q_ph (q_nil ?_))
                          replace hE : Env a 54 [(0, _), (1, _), (2, _), (3, _), (4, _)] := hE.sel [0, 1, 2, 3, 4] rfl
                          refine hK4 _ _ ?_
                          refine wp_ret ?_
                          refine f_ret1 hE rfl rfl ?_
                          exact ⟨(by first | rfl | (simp; done)), hM.pick [] rfl⟩
                        trivial
                      trivial
                    refine o_or rfl ?_ ?_
                    · refine g_yes hE rfl rfl ?_
                      refine s_buildSlice (xs := [.const (.int .u8 98)]) (bv [98]) hE hM sl74 rfl rfl rfl (by intro v hv; first | (cases hv; done) | (obtain ⟨x, _, rfl⟩ := List.mem_map.1 (show v ∈ bv [98] from hv); rfl)) rfl rfl rfl rfl ?_; clear hE a; intro a v38 w21 hE hM'
                      clear hM; have hM := hM'; clear hM'
                      replace hM := hM.ownEq (m' := [98].length) (cs' := bv [98]) rfl rfl
                      refine q_nil (q_nx ?_)
                      refine o_re ?_
                      refine o_fl rfl ?_
                      refine q_nil (q_nx ?_)
                      refine o_or rfl ?_ ?_
                      · refine g_yes hE rfl rfl ?_
                        obtain ⟨cq6, hq6⟩ := own_rd (hM.get 1 rfl)
                        refine s_call hE rfl Tryd.call38 (thead_c [3, 0, 0, 0, 0, 0, 0, 0, 0, 0, 0, 0, 0, 0, 0, 0, 0, 0, 0, 0, 0, 0, 0, 0, 0, 0, 0, 0, 0, 0, 0, 0] _ [98] _ _ (hM.get 9 rfl) (by have hl_ : [3, 0, 0, 0, 0, 0, 0, 0, 0, 0, 0, 0, 0, 0, 0, 0, 0, 0, 0, 0, 0, 0, 0, 0, 0, 0, 0, 0, 0, 0, 0, 0].length = 32 := (by first | (simp; done) | (simp [*]; done) | (simp; omega)); first | assumption | (simp; done)) hq6 (by have hl_0 : [3, 0, 0, 0, 0, 0, 0, 0, 0, 0, 0, 0, 0, 0, 0, 0, 0, 0, 0, 0, 0, 0, 0, 0, 0, 0, 0, 0, 0, 0, 0, 0].length = 32 := (by first | (simp; done) | (simp [*]; done) | (simp; omega)); have hl_1 : [98].length = 1 := (by first | (simp; done) | (simp [*]; done) | (simp; omega)); first | omega | assumption | (simp; done) | (simp; omega) | decide)) rfl ?_
                        rintro e w22 ⟨rfl, hN⟩
                        refine ⟨_, rfl, hN.sta0 _, ?_⟩; clear hE a; intro a hE
                        replace hM : Mem _ _ w22 [_, _, _, _, _, _, _, _, _, _] := hM.call0 hN trivial; clear hN
                        refine q_nil (q_nx ?_)
                        refine o_re ?_
                        refine o_fl rfl ?_
                        refine q_nil (q_nx ?_)
                        refine o_or rfl ?_ ?_
                        · refine g_yes hE rfl rfl ?_
                          refine s_convSame hE rfl hM Tryd.underlying74 Tryd.underlying5 (by have hl_ : [98].length = 1 := (by first | (simp; done) | (simp [*]; done) | (simp; omega)); first | omega | decide | (simp; done) | (simp; omega)) (by intro X h; cases h; intro b hb; exact ⟨fun e => ((apart_of_get hM.apart (i := 0) (j := 8) rfl rfl (by decide)).1 b hb).1 (by rw [e]; exact .head _), fun e => ((apart_of_get hM.apart (i := 0) (j := 6) rfl rfl (by decide)).1 b hb).1 (by rw [e]; exact .head _), fun e => ((apart_of_get hM.apart (i := 0) (j := 5) rfl rfl (by decide)).1 b hb).1 (by rw [e]; exact .head _)⟩) rfl ?_; clear hE a; intro a w23 hE hM'; clear hM; have hM := hM'; clear hM'
                          refine q_nil (q_nx ?_)
                          refine o_re ?_
                          refine o_leaf rfl rfl ?_
                          refine g_yes hE rfl rfl ?_
                          obtain ⟨cq7, hq7⟩ := own_rd (hM.get 0 rfl)
                          refine s_call hE rfl Tryd.call33 (bheadtext_c _ [98] _ _ hq7 (by first | omega | assumption | (simp; done) | (simp; omega) | decide)) rfl ?_
                          rintro e w24 ⟨v40, rfl, hN⟩
                          refine ⟨_, rfl, hN.sta0 _, ?_⟩; clear hE a; intro a hE
                          replace hM : Mem _ _ w24 [_, _, _, _, _, _, _, _, _, _, _] := hM.call0 hN ⟨rfl, trivial⟩; clear hN
                          refine g_yes hE rfl rfl ?_
                          obtain ⟨cq8, hq8⟩ := own_rd (hM.get 0 rfl)
                          refine s_call hE rfl Tryd.call45 (of_c _ _ [3, 0, 0, 0, 0, 0, 0, 0, 0, 0, 0, 0, 0, 0, 0, 0, 0, 0, 0, 0, 0, 0, 0, 0, 0, 0, 0, 0, 0, 0, 0, 0] (plT 72 [98]) _ _ _ (hM.get 10 rfl) (rd_of_arr (hM.get 9 rfl) (by first | (simp; done) | (simp [*]; done) | (simp; omega))) hq8 (by first | omega | assumption | (simp; done) | (simp; omega) | decide) (by first | omega | assumption | (simp; done) | (simp; omega) | decide)) rfl ?_
                          rintro e w25 ⟨rfl, hN⟩
                          refine ⟨_, rfl, hN.sta0 _, ?_⟩; clear hE a; intro a hE
                          replace hM : Mem _ _ w25 [_, _, _, _, _, _, _, _, _, _, _] := hM.call0 hN trivial; clear hN
                          refine g_yes hE rfl rfl ?_
                          refine s_bin hE rfl rfl (eqa34 (by first | simp | assumption) (by first | simp | assumption)).1 rfl ?_; clear hE a; intro a hE
                          refine s_pickt hE rfl rfl rfl ?_; clear hE a; intro a hE
                          refine s_move hE rfl rfl ?_; clear hE a; intro a hE
                          replace hE := hE.cast 44 rfl (show _ = Value.bool true from (congrArg Value.bool (by first | (with_reducible exact decide_eq_true rfl) | decide +kernel | (simp; done) | (simp [*]; done))))
                          refine g_yes hE rfl rfl ?_
                          refine s_loadN hE rfl (hM.get 7 rfl) row34 rfl (by intro X h; cases h; simp) rfl ?_; clear hE a; intro a hE
                          refine g_yes hE rfl rfl ?_
                          refine s_build (r := .agg (bv [1, 0, 0, 0, 0, 0, 0, 0, 0, 0, 0, 0, 0, 0, 0, 0, 0, 0, 0, 0, 0, 0, 0, 0, 0, 0, 0, 0, 0, 0, 0, 0]).toArray) _ hE rfl (fun w => by kernel_rfl) rfl ?_; clear hE a; intro a hE
                          refine g_yes hE rfl rfl ?_
                          refine s_bin hE rfl rfl (eqa34 (by first | simp | assumption) (by first | simp | assumption)).1 rfl ?_; clear hE a; intro a hE
                          refine s_pickt hE rfl rfl rfl ?_; clear hE a; intro a hE
                          refine s_move hE rfl rfl ?_; clear hE a; intro a hE
                          replace hE := hE.cast 49 rfl (show _ = Value.bool true from (congrArg Value.bool (by first | (with_reducible exact decide_eq_true rfl) | decide +kernel | (simp; done) | (simp [*]; done))))
                          refine g_yes hE rfl rfl ?_
                          refine s_loadN hE rfl (hM.get 6 rfl) row34 rfl (by intro X h; cases h; simp) rfl ?_; clear hE a; intro a hE
                          refine g_yes hE rfl rfl ?_
                          refine s_build (r := .agg (bv [2, 0, 0, 0, 0, 0, 0, 0, 0, 0, 0, 0, 0, 0, 0, 0, 0, 0, 0, 0, 0, 0, 0, 0, 0, 0, 0, 0, 0, 0, 0, 0]).toArray) _ hE rfl (fun w => by kernel_rfl) rfl ?_; clear hE a; intro a hE
                          refine g_yes hE rfl rfl ?_
                          refine s_bin hE rfl rfl (eqa34 (by first | simp | assumption) (by first | simp | assumption)).1 rfl ?_; clear hE a; intro a hE
                          refine s_pickt hE rfl rfl rfl ?_; clear hE a; intro a hE
                          refine s_assign hE rfl rfl ?_; clear hE a; intro a hE
                          refine q_nil (q_ph (q_nil ?_))
                          replace hE : Env a 54 [(0, _), (1, _), (2, _), (3, _), (4, _)] := hE.sel [0, 1, 2, 3, 4] rfl
                          refine hK4 _ _ ?_
                          refine wp_ret ?_
                          refine f_ret1 hE rfl rfl ?_
                          exact ⟨(by first | rfl | (simp; done)), hM.pick [] rfl⟩
                        trivial
                      refine o_or rfl ?_ ?_
                      · refine g_yes hE rfl rfl ?_
                        refine s_convSame hE rfl hM Tryd.underlying74 Tryd.underlying5 (by have hl_ : [98].length = 1 := (by first | (simp; done) | (simp [*]; done) | (simp; omega)); first | omega | decide | (simp; done) | (simp; omega)) (by intro X h; cases h; intro b hb; exact ⟨fun e => ((apart_of_get hM.apart (i := 0) (j := 8) rfl rfl (by decide)).1 b hb).1 (by rw [e]; exact .head _), fun e => ((apart_of_get hM.apart (i := 0) (j := 6) rfl rfl (by decide)).1 b hb).1 (by rw [e]; exact .head _), fun e => ((apart_of_get hM.apart (i := 0) (j := 5) rfl rfl (by decide)).1 b hb).1 (by rw [e]; exact .head _)⟩) rfl ?_; clear hE a; intro a w22 hE hM'; clear hM; have hM := hM'; clear hM'
                        refine q_nil (q_nx ?_)
                        refine o_re ?_
                        refine o_leaf rfl rfl ?_
                        refine g_yes hE rfl rfl ?_
                        obtain ⟨cq9, hq9⟩ := own_rd (hM.get 1 rfl)
                        refine s_call hE rfl Tryd.call38 (thead_c [3, 0, 0, 0, 0, 0, 0, 0, 0, 0, 0, 0, 0, 0, 0, 0, 0, 0, 0, 0, 0, 0, 0, 0, 0, 0, 0, 0, 0, 0, 0, 0] _ [98] _ _ (hM.get 9 rfl) (by have hl_ : [3, 0, 0, 0, 0, 0, 0, 0, 0, 0, 0, 0, 0, 0, 0, 0, 0, 0, 0, 0, 0, 0, 0, 0, 0, 0, 0, 0, 0, 0, 0, 0].length = 32 := (by first | (simp; done) | (simp [*]; done) | (simp; omega)); first | assumption | (simp; done)) hq9 (by have hl_0 : [3, 0, 0, 0, 0, 0, 0, 0, 0, 0, 0, 0, 0, 0, 0, 0, 0, 0, 0, 0, 0, 0, 0, 0, 0, 0, 0, 0, 0, 0, 0, 0].length = 32 := (by first | (simp; done) | (simp [*]; done) | (simp; omega)); have hl_1 : [98].length = 1 := (by first | (simp; done) | (simp [*]; done) | (simp; omega)); first | omega | assumption | (simp; done) | (simp; omega) | decide)) rfl ?_
                        rintro e w23 ⟨rfl, hN⟩
                        refine ⟨_, rfl, hN.sta0 _, ?_⟩; clear hE a; intro a hE
                        replace hM : Mem _ _ w23 [_, _, _, _, _, _, _, _, _, _] := hM.call0 hN trivial; clear hN
                        refine g_yes hE rfl rfl ?_
                        obtain ⟨cq10, hq10⟩ := own_rd (hM.get 0 rfl)
                        refine s_call hE rfl Tryd.call33 (bheadtext_c _ [98] _ _ hq10 (by first | omega | assumption | (simp; done) | (simp; omega) | decide)) rfl ?_
                        rintro e w24 ⟨v40, rfl, hN⟩
                        refine ⟨_, rfl, hN.sta0 _, ?_⟩; clear hE a; intro a hE
                        replace hM : Mem _ _ w24 [_, _, _, _, _, _, _, _, _, _, _] := hM.call0 hN ⟨rfl, trivial⟩; clear hN
                        refine g_yes hE rfl rfl ?_
                        obtain ⟨cq11, hq11⟩ := own_rd (hM.get 0 rfl)
                        refine s_call hE rfl Tryd.call45 (of_c _ _ [3, 0, 0, 0, 0, 0, 0, 0, 0, 0, 0, 0, 0, 0, 0, 0, 0, 0, 0, 0, 0, 0, 0, 0, 0, 0, 0, 0, 0, 0, 0, 0] (plT 72 [98]) _ _ _ (hM.get 10 rfl) (rd_of_arr (hM.get 9 rfl) (by first | (simp; done) | (simp [*]; done) | (simp; omega))) hq11 (by first | omega | assumption | (simp; done) | (simp; omega) | decide) (by first | omega | assumption | (simp; done) | (simp; omega) | decide)) rfl ?_
                        rintro e w25 ⟨rfl, hN⟩
                        refine ⟨_, rfl, hN.sta0 _, ?_⟩; clear hE a; intro a hE
                        replace hM : Mem _ _ w25 [_, _, _, _, _, _, _, _, _, _, _] := hM.call0 hN trivial; clear hN
                        refine g_yes hE rfl rfl ?_
                        refine s_bin hE rfl rfl (eqa34 (by first | simp | assumption) (by first | simp | assumption)).1 rfl ?_; clear hE a; intro a hE
                        refine s_pickt hE rfl rfl rfl ?_; clear hE a; intro a hE
                        refine s_move hE rfl rfl ?_; clear hE a; intro a hE
                        replace hE := hE.cast 44 rfl (show _ = Value.bool true from (congrArg Value.bool (by first | (with_reducible exact decide_eq_true rfl) | decide +kernel | (simp; done) | (simp [*]; done))))
                        refine g_yes hE rfl rfl ?_
                        refine s_loadN hE rfl (hM.get 7 rfl) row34 rfl (by intro X h; cases h; simp) rfl ?_; clear hE a; intro a hE
                        refine g_yes hE rfl rfl ?_
                        refine s_build (r := .agg (bv [1, 0, 0, 0, 0, 0, 0, 0, 0, 0, 0, 0, 0, 0, 0, 0, 0, 0, 0, 0, 0, 0, 0, 0, 0, 0, 0, 0, 0, 0, 0, 0]).toArray) _ hE rfl (fun w => by kernel_rfl) rfl ?_; clear hE a; intro a hE
                        refine g_yes hE rfl rfl ?_
                        refine s_bin hE rfl rfl (eqa34 (by first | simp | assumption) (by first | simp | assumption)).1 rfl ?_; clear hE a; intro a hE
                        refine s_pickt hE rfl rfl rfl ?_; clear hE a; intro a hE
                        refine s_move hE rfl rfl ?_; clear hE a; intro a hE
                        replace hE := hE.cast 49 rfl (show _ = Value.bool true from (congrArg Value.bool (by first | (with_reducible exact decide_eq_true rfl) | decide +kernel | (simp; done) | (simp [*]; done))))
                        refine g_yes hE rfl rfl ?_
                        refine s_loadN hE rfl (hM.get 6 rfl) row34 rfl (by intro X h; cases h; simp) rfl ?_; clear hE a; intro a hE
                        refine g_yes hE rfl rfl ?_
                        refine s_build (r := .agg (bv [2, 0, 0, 0, 0, 0, 0, 0, 0, 0, 0, 0, 0, 0, 0, 0, 0, 0, 0, 0, 0, 0, 0, 0, 0, 0, 0, 0, 0, 0, 0, 0]).toArray) _ hE rfl (fun w => by kernel_rfl) rfl ?_; clear hE a; intro a hE
                        refine g_yes hE rfl rfl ?_
                        refine s_bin hE rfl rfl (eqa34 (by first | simp | assumption) (by first | simp | assumption)).1 rfl ?_; clear hE a; intro a hE
                        refine s_pickt hE rfl rfl rfl ?_; clear hE a; intro a hE
                        refine s_assign hE rfl rfl ?_; clear hE a; intro a hE
                        refine q_nil (q_ph (q_nil ?_))
                        replace hE : Env a 54 [(0, _), (1, _), (2, _), (3, _), (4, _)] := hE.sel [0, 1, 2, 3, 4] rfl
                        refine hK4 _ _ ?_
                        refine wp_ret ?_
                        refine f_ret1 hE rfl rfl ?_
                        exact ⟨(by first | rfl | (simp; done)), hM.pick [] rfl⟩
                      trivial
                    trivial
                  refine o_or rfl ?_ ?_
                  · refine g_yes hE rfl rfl ?_
                    refine s_buildSlice (xs := [.const (.int .u8 98)]) (bv [98]) hE hM sl74 rfl rfl rfl (by intro v hv; first | (cases hv; done) | (obtain ⟨x, _, rfl⟩ := List.mem_map.1 (show v ∈ bv [98] from hv); rfl)) rfl rfl rfl rfl ?_; clear hE a; intro a v38 w20 hE hM'
                    clear hM; have hM := hM'; clear hM'
                    replace hM := hM.ownEq (m' := [98].length) (cs' := bv [98]) rfl rfl
                    refine q_nil (q_nx ?_)
                    refine o_re ?_
                    refine o_fl rfl ?_
                    refine q_nil (q_nx ?_)
                    refine o_or rfl ?_ ?_
                    · refine g_yes hE rfl rfl ?_
                      replace hM : Mem _ _ w20 [_, _, _, _, _, _, _, _, _, _] := hM.pick [1, 0, 2, 3, 4, 5, 6, 7, 8, 9] rfl
                      refine s_convSame hE rfl hM Tryd.underlying74 Tryd.underlying5 (by have hl_ : [98].length = 1 := (by first | (simp; done) | (simp [*]; done) | (simp; omega)); first | omega | decide | (simp; done) | (simp; omega)) (by intro X h; cases h; intro b hb; exact ⟨fun e => ((apart_of_get hM.apart (i := 0) (j := 8) rfl rfl (by decide)).1 b hb).1 (by rw [e]; exact .head _), fun e => ((apart_of_get hM.apart (i := 0) (j := 6) rfl rfl (by decide)).1 b hb).1 (by rw [e]; exact .head _), fun e => ((apart_of_get hM.apart (i := 0) (j := 5) rfl rfl (by decide)).1 b hb).1 (by rw [e]; exact .head _)⟩) rfl ?_; clear hE a; intro a w21 hE hM'; clear hM; have hM := hM'; clear hM'
                      refine q_nil (q_nx ?_)
                      refine o_re ?_
                      refine o_fl rfl ?_
                      refine q_nil (q_nx ?_)
                      refine o_or rfl ?_ ?_
                      · refine g_yes hE rfl rfl ?_
                        obtain ⟨cq12, hq12⟩ := own_rd (hM.get 0 rfl)
                        refine s_call hE rfl Tryd.call38 (thead_c [3, 0, 0, 0, 0, 0, 0, 0, 0, 0, 0, 0, 0, 0, 0, 0, 0, 0, 0, 0, 0, 0, 0, 0, 0, 0, 0, 0, 0, 0, 0, 0] _ [98] _ _ (hM.get 9 rfl) (by have hl_ : [3, 0, 0, 0, 0, 0, 0, 0, 0, 0, 0, 0, 0, 0, 0, 0, 0, 0, 0, 0, 0, 0, 0, 0, 0, 0, 0, 0, 0, 0, 0, 0].length = 32 := (by first | (simp; done) | (simp [*]; done) | (simp; omega)); first | assumption | (simp; done)) hq12 (by have hl_0 : [3, 0, 0, 0, 0, 0, 0, 0, 0, 0, 0, 0, 0, 0, 0, 0, 0, 0, 0, 0, 0, 0, 0, 0, 0, 0, 0, 0, 0, 0, 0, 0].length = 32 := (by first | (simp; done) | (simp [*]; done) | (simp; omega)); have hl_1 : [98].length = 1 := (by first | (simp; done) | (simp [*]; done) | (simp; omega)); first | omega | assumption | (simp; done) | (simp; omega) | decide)) rfl ?_
                        rintro e w22 ⟨rfl, hN⟩
                        refine ⟨_, rfl, hN.sta0 _, ?_⟩; clear hE a; intro a hE
                        replace hM : Mem _ _ w22 [_, _, _, _, _, _, _, _, _, _] := hM.call0 hN trivial; clear hN
                        refine q_nil (q_nx ?_)
                        refine o_re ?_
                        refine o_fl rfl ?_
                        refine q_nil (q_nx ?_)
                        refine o_or rfl ?_ ?_
                        · refine g_yes hE rfl rfl ?_
                          replace hM : Mem _ _ w22 [_, _, _, _, _, _, _, _, _, _] := hM.pick [1, 0, 2, 3, 4, 5, 6, 7, 8, 9] rfl
                          refine s_convSame hE rfl hM Tryd.underlying74 Tryd.underlying5 (by have hl_ : [98].length = 1 := (by first | (simp; done) | (simp [*]; done) | (simp; omega)); first | omega | decide | (simp; done) | (simp; omega)) (by intro X h; cases h; intro b hb; exact ⟨fun e => ((apart_of_get hM.apart (i := 0) (j := 8) rfl rfl (by decide)).1 b hb).1 (by rw [e]; exact .head _), fun e => ((apart_of_get hM.apart (i := 0) (j := 6) rfl rfl (by decide)).1 b hb).1 (by rw [e]; exact .head _), fun e => ((apart_of_get hM.apart (i := 0) (j := 5) rfl rfl (by decide)).1 b hb).1 (by rw [e]; exact .head _)⟩) rfl ?_; clear hE a; intro a w23 hE hM'; clear hM; have hM := hM'; clear hM'
                          refine q_nil (q_nx ?_)
                          refine o_re ?_
                          refine o_leaf rfl rfl ?_
                          refine g_yes hE rfl rfl ?_
                          obtain ⟨cq13, hq13⟩ := own_rd (hM.get 0 rfl)
                          refine s_call hE rfl Tryd.call33 (bheadtext_c _ [98] _ _ hq13 (by first | omega | assumption | (simp; done) | (simp; omega) | decide)) rfl ?_
                          rintro e w24 ⟨v40, rfl, hN⟩
                          refine ⟨_, rfl, hN.sta0 _, ?_⟩; clear hE a; intro a hE
                          replace hM : Mem _ _ w24 [_, _, _, _, _, _, _, _, _, _, _] := hM.call0 hN ⟨rfl, trivial⟩; clear hN
                          refine g_yes hE rfl rfl ?_
                          obtain ⟨cq14, hq14⟩ := own_rd (hM.get 0 rfl)
                          refine s_call hE rfl Tryd.call45 (of_c _ _ [3, 0, 0, 0, 0, 0, 0, 0, 0, 0, 0, 0, 0, 0, 0, 0, 0, 0, 0, 0, 0, 0, 0, 0, 0, 0, 0, 0, 0, 0, 0, 0] (plT 72 [98]) _ _ _ (hM.get 10 rfl) (rd_of_arr (hM.get 9 rfl) (by first | (simp; done) | (simp [*]; done) | (simp; omega))) hq14 (by first | omega | assumption | (simp; done) | (simp; omega) | decide) (by first | omega | assumption | (simp; done) | (simp; omega) | decide)) rfl ?_
                          rintro e w25 ⟨rfl, hN⟩
                          refine ⟨_, rfl, hN.sta0 _, ?_⟩; clear hE a; intro a hE
                          replace hM : Mem _ _ w25 [_, _, _, _, _, _, _, _, _, _, _] := hM.call0 hN trivial; clear hN
                          refine g_yes hE rfl rfl ?_
                          refine s_bin hE rfl rfl (eqa34 (by first | simp | assumption) (by first | simp | assumption)).1 rfl ?_; clear hE a; intro a hE
                          refine s_pickt hE rfl rfl rfl ?_; clear hE a; intro a hE
                          refine s_move hE rfl rfl ?_; clear hE a; intro a hE
                          replace hE := hE.cast 44 rfl (show _ = Value.bool true from (congrArg Value.bool (by first | (with_reducible exact decide_eq_true rfl) | decide +kernel | (simp; done) | (simp [*]; done))))
                          refine g_yes hE rfl rfl ?_
                          refine s_loadN hE rfl (hM.get 7 rfl) row34 rfl (by intro X h; cases h; simp) rfl ?_; clear hE a; intro a hE
                          refine g_yes hE rfl rfl ?_
                          refine s_build (r := .agg (bv [1, 0, 0, 0, 0, 0, 0, 0, 0, 0, 0, 0, 0, 0, 0, 0, 0, 0, 0, 0, 0, 0, 0, 0, 0, 0, 0, 0, 0, 0, 0, 0]).toArray) _ hE rfl (fun w => by kernel_rfl) rfl ?_; clear hE a; intro a hE
                          refine g_yes hE rfl rfl ?_
                          refine s_bin hE rfl rfl (eqa34 (by first | simp | assumption) (by first | simp | assumption)).1 rfl ?_; clear hE a; intro a hE
                          refine s_pickt hE rfl rfl rfl ?_; clear hE a; intro a hE
                          refine s_move hE rfl rfl ?_; clear hE a; intro a hE
                          replace hE := hE.cast 49 rfl (show _ = Value.bool true from (congrArg Value.bool (by first | (with_reducible exact decide_eq_true rfl) | decide +kernel | (simp; done) | (simp [*]; done))))
                          refine g_yes hE rfl rfl ?_
                          refine s_loadN hE rfl (hM.get 6 rfl) row34 rfl (by intro X h; cases h; simp) rfl ?_; clear hE a; intro a hE
                          refine g_yes hE rfl rfl ?_
                          refine s_build (r := .agg (bv [2, 0, 0, 0, 0, 0, 0, 0, 0, 0, 0, 0, 0, 0, 0, 0, 0, 0, 0, 0, 0, 0, 0, 0, 0, 0, 0, 0, 0, 0, 0, 0]).toArray) _ hE rfl (fun w => by kernel_rfl) rfl ?_; clear hE a; intro a hE
                          refine g_yes hE rfl rfl ?_
                          refine s_bin hE rfl rfl (eqa34 (by first | simp | assumption) (by first | simp | assumption)).1 rfl ?_; clear hE a; intro a hE
                          refine s_pickt hE rfl rfl rfl ?_; clear hE a; intro a hE
                          refine s_assign hE rfl rfl ?_; clear hE a; intro a hE
                          refine q_nil (q_ph (q_nil ?_))
                          replace hE : Env a 54 [(0, _), (1, _), (2, _), (3, _), (4, _)] := hE.sel [0, 1, 2, 3, 4] rfl
                          refine hK4 _ _ ?_
                          refine wp_ret ?_
                          refine f_ret1 hE rfl rfl ?_
                          exact ⟨(by first | rfl | (simp; done)), hM.pick [] rfl⟩
                        trivial
                      refine o_or rfl ?_ ?_
                      · refine g_yes hE rfl rfl ?_
                        replace hM : Mem _ _ w21 [_, _, _, _, _, _, _, _, _, _] := hM.pick [1, 0, 2, 3, 4, 5, 6, 7, 8, 9] rfl
                        refine s_convSame hE rfl hM Tryd.underlying74 Tryd.underlying5 (by have hl_ : [98].length = 1 := (by first | (simp; done) | (simp [*]; done) | (simp; omega)); first | omega | decide | (simp; done) | (simp; omega)) (by intro X h; cases h; intro b hb; exact ⟨fun e => ((apart_of_get hM.apart (i := 0) (j := 8) rfl rfl (by decide)).1 b hb).1 (by rw [e]; exact .head _), fun e => ((apart_of_get hM.apart (i := 0) (j := 6) rfl rfl (by decide)).1 b hb).1 (by rw [e]; exact .head _), fun e => ((apart_of_get hM.apart (i := 0) (j := 5) rfl rfl (by decide)).1 b hb).1 (by rw [e]; exact .head _)⟩) rfl ?_; clear hE a; intro a w22 hE hM'; clear hM; have hM := hM'; clear hM'
                        refine q_nil (q_nx ?_)
                        refine o_re ?_
                        refine o_leaf rfl rfl ?_
                        refine g_yes hE rfl rfl ?_
                        obtain ⟨cq15, hq15⟩ := own_rd (hM.get 1 rfl)
                        refine s_call hE rfl Tryd.call38 (thead_c [3, 0, 0, 0, 0, 0, 0, 0, 0, 0, 0, 0, 0, 0, 0, 0, 0, 0, 0, 0, 0, 0, 0, 0, 0, 0, 0, 0, 0, 0, 0, 0] _ [98] _ _ (hM.get 9 rfl) (by have hl_ : [3, 0, 0, 0, 0, 0, 0, 0, 0, 0, 0, 0, 0, 0, 0, 0, 0, 0, 0, 0, 0, 0, 0, 0, 0, 0, 0, 0, 0, 0, 0, 0].length = 32 := (by first | (simp; done) | (simp [*]; done) | (simp; omega)); first | assumption | (simp; done)) hq15 (by have hl_0 : [3, 0, 0, 0, 0, 0, 0, 0, 0, 0, 0, 0, 0, 0, 0, 0, 0, 0, 0, 0, 0, 0, 0, 0, 0, 0, 0, 0, 0, 0, 0, 0].length = 32 := (by first | (simp; done) | (simp [*]; done) | (simp; omega)); have hl_1 : [98].length = 1 := (by first | (simp; done) | (simp [*]; done) | (simp; omega)); first | omega | assumption | (simp; done) | (simp; omega) | decide)) rfl ?_
                        rintro e w23 ⟨rfl, hN⟩
                        refine ⟨_, rfl, hN.sta0 _, ?_⟩; clear hE a; intro a hE
                        replace hM : Mem _ _ w23 [_, _, _, _, _, _, _, _, _, _] := hM.call0 hN trivial; clear hN
                        refine g_yes hE rfl rfl ?_
                        obtain ⟨cq16, hq16⟩ := own_rd (hM.get 0 rfl)
                        refine s_call hE rfl Tryd.call33 (bheadtext_c _ [98] _ _ hq16 (by first | omega | assumption | (simp; done) | (simp; omega) | decide)) rfl ?_
                        rintro e w24 ⟨v40, rfl, hN⟩
                        refine ⟨_, rfl, hN.sta0 _, ?_⟩; clear hE a; intro a hE
                        replace hM : Mem _ _ w24 [_, _, _, _, _, _, _, _, _, _, _] := hM.call0 hN ⟨rfl, trivial⟩; clear hN
                        refine g_yes hE rfl rfl ?_
                        obtain ⟨cq17, hq17⟩ := own_rd (hM.get 0 rfl)
                        refine s_call hE rfl Tryd.call45 (of_c _ _ [3, 0, 0, 0, 0, 0, 0, 0, 0, 0, 0, 0, 0, 0, 0, 0, 0, 0, 0, 0, 0, 0, 0, 0, 0, 0, 0, 0, 0, 0, 0, 0] (plT 72 [98]) _ _ _ (hM.get 10 rfl) (rd_of_arr (hM.get 9 rfl) (by first | (simp; done) | (simp [*]; done) | (simp; omega))) hq17 (by first | omega | assumption | (simp; done) | (simp; omega) | decide) (by first | omega | assumption | (simp; done) | (simp; omega) | decide)) rfl ?_
                        rintro e w25 ⟨rfl, hN⟩
                        refine ⟨_, rfl, hN.sta0 _, ?_⟩; clear hE a; intro a hE
                        replace hM : Mem _ _ w25 [_, _, _, _, _, _, _, _, _, _, _] := hM.call0 hN trivial; clear hN
                        refine g_yes hE rfl rfl ?_
                        refine s_bin hE rfl rfl (eqa34 (by first | simp | assumption) (by first | simp | assumption)).1 rfl ?_; clear hE a; intro a hE
                        refine s_pickt hE rfl rfl rfl ?_; clear hE a; intro a hE
                        refine s_move hE rfl rfl ?_; clear hE a; intro a hE
                        replace hE := hE.cast 44 rfl (show _ = Value.bool true from (congrArg Value.bool (by first | (with_reducible exact decide_eq_true rfl) | decide +kernel | (simp; done) | (simp [*]; done))))
                        refine g_yes hE rfl rfl ?_
                        refine s_loadN hE rfl (hM.get 7 rfl) row34 rfl (by intro X h; cases h; simp) rfl ?_; clear hE a; intro a hE
                        refine g_yes hE rfl rfl ?_
                        refine s_build (r := .agg (bv [1, 0, 0, 0, 0, 0, 0, 0, 0, 0, 0, 0, 0, 0, 0, 0, 0, 0, 0, 0, 0, 0, 0, 0, 0, 0, 0, 0, 0, 0, 0, 0]).toArray) _ hE rfl (fun w => by kernel_rfl) rfl ?_; clear hE a; intro a hE
                        refine g_yes hE rfl rfl ?_
                        refine s_bin hE rfl rfl (eqa34 (by first | simp | assumption) (by first | simp | assumption)).1 rfl ?_; clear hE a; intro a hE
                        refine s_pickt hE rfl rfl rfl ?_; clear hE a; intro a hE
                        refine s_move hE rfl rfl ?_; clear hE a; intro a hE
                        replace hE := hE.cast 49 rfl (show _ = Value.bool true from (congrArg Value.bool (by first | (with_reducible exact decide_eq_true rfl) | decide +kernel | (simp; done) | (simp [*]; done))))
                        refine g_yes hE rfl rfl ?_
                        refine s_loadN hE rfl (hM.get 6 rfl) row34 rfl (by intro X h; cases h; simp) rfl ?_; clear hE a; intro a hE
                        refine g_yes hE rfl rfl ?_
                        refine s_build (r := .agg (bv [2, 0, 0, 0, 0, 0, 0, 0, 0, 0, 0, 0, 0, 0, 0, 0, 0, 0, 0, 0, 0, 0, 0, 0, 0, 0, 0, 0, 0, 0, 0, 0]).toArray) _ hE rfl (fun w => by kernel_rfl) rfl ?_; clear hE a; intro a hE
                        refine g_yes hE rfl rfl ?_
                        refine s_bin hE rfl rfl (eqa34 (by first | simp | assumption) (by first | simp | assumption)).1 rfl ?_; clear hE a; intro a hE
                        refine s_pickt hE rfl rfl rfl ?_; clear hE a; intro a hE
                        refine s_assign hE rfl rfl ?_; clear hE a; intro a hE
                        refine q_nil (q_ph (q_nil ?_))
                        replace hE : Env a 54 [(0, _), (1, _), (2, _), (3, _), (4, _)] := hE.sel [0, 1, 2, 3, 4] rfl
                        refine hK4 _ _ ?_
                        refine wp_ret ?_
                        refine f_ret1 hE rfl rfl ?_
                        exact ⟨(by first | rfl | (simp; done)), hM.pick [] rfl⟩
                      trivial
                    refine o_or rfl ?_ ?_
                    · refine g_yes hE rfl rfl ?_
                      refine s_convSame hE rfl hM Tryd.underlying74 Tryd.underlying5 (by have hl_ : [98].length = 1 := (by first | (simp; done) | (simp [*]; done) | (simp; omega)); first | omega | decide | (simp; done) | (simp; omega)) (by intro X h; cases h; intro b hb; exact ⟨fun e => ((apart_of_get hM.apart (i := 0) (j := 8) rfl rfl (by decide)).1 b hb).1 (by rw [e]; exact .head _), fun e => ((apart_of_get hM.apart (i := 0) (j := 6) rfl rfl (by decide)).1 b hb).1 (by rw [e]; exact .head _), fun e => ((apart_of_get hM.apart (i := 0) (j := 5) rfl rfl (by decide)).1 b hb).1 (by rw [e]; exact .head _)⟩) rfl ?_; clear hE a; intro a w21 hE hM'; clear hM; have hM := hM'; clear hM'
                      refine q_nil (q_nx ?_)
                      refine o_re ?_
                      refine o_fl rfl ?_
                      refine q_nil (q_nx ?_)
                      refine o_or rfl ?_ ?_
                      · refine g_yes hE rfl rfl ?_
                        replace hM : Mem _ _ w21 [_, _, _, _, _, _, _, _, _, _] := hM.pick [1, 0, 2, 3, 4, 5, 6, 7, 8, 9] rfl
                        refine s_convSame hE rfl hM Tryd.underlying74 Tryd.underlying5 (by have hl_ : [98].length = 1 := (by first | (simp; done) | (simp [*]; done) | (simp; omega)); first | omega | decide | (simp; done) | (simp; omega)) (by intro X h; cases h; intro b hb; exact ⟨fun e => ((apart_of_get hM.apart (i := 0) (j := 8) rfl rfl (by decide)).1 b hb).1 (by rw [e]; exact .head _), fun e => ((apart_of_get hM.apart (i := 0) (j := 6) rfl rfl (by decide)).1 b hb).1 (by rw [e]; exact .head _), fun e => ((apart_of_get hM.apart (i := 0) (j := 5) rfl rfl (by decide)).1 b hb).1 (by rw [e]; exact .head _)⟩) rfl ?_; clear hE a; intro a w22 hE hM'; clear hM; have hM := hM'; clear hM'
                        refine q_nil (q_nx ?_)
                        refine o_re ?_
                        refine o_leaf rfl rfl ?_
                        refine g_yes hE rfl rfl ?_
                        obtain ⟨cq18, hq18⟩ := own_rd (hM.get 0 rfl)
                        refine s_call hE rfl Tryd.call38 (thead_c [3, 0, 0, 0, 0, 0, 0, 0, 0, 0, 0, 0, 0, 0, 0, 0, 0, 0, 0, 0, 0, 0, 0, 0, 0, 0, 0, 0, 0, 0, 0, 0] _ [98] _ _ (hM.get 9 rfl) (by have hl_ : [3, 0, 0, 0, 0, 0, 0, 0, 0, 0, 0, 0, 0, 0, 0, 0, 0, 0, 0, 0, 0, 0, 0, 0, 0, 0, 0, 0, 0, 0, 0, 0].length = 32 := (by first | (simp; done) | (simp [*]; done) | (simp; omega)); first | assumption | (simp; done)) hq18 (by have hl_0 : [3, 0, 0, 0, 0, 0, 0, 0, 0, 0, 0, 0, 0, 0, 0, 0, 0, 0, 0, 0, 0, 0, 0, 0, 0, 0, 0, 0, 0, 0, 0, 0].length = 32 := (by first | (simp; done) | (simp [*]; done) | (simp; omega)); have hl_1 : [98].length = 1 := (by first | (simp; done) | (simp [*]; done) | (simp; omega)); first | omega | assumption | (simp; done) | (simp; omega) | decide)) rfl ?_
                        rintro e w23 ⟨rfl, hN⟩
                        refine ⟨_, rfl, hN.sta0 _, ?_⟩; clear hE a; intro a hE
                        replace hM : Mem _ _ w23 [_, _, _, _, _, _, _, _, _, _] := hM.call0 hN trivial; clear hN
                        refine g_yes hE rfl rfl ?_
                        obtain ⟨cq19, hq19⟩ := own_rd (hM.get 1 rfl)
                        refine s_call hE rfl Tryd.call33 (bheadtext_c _ [98] _ _ hq19 (by first | omega | assumption | (simp; done) | (simp; omega) | decide)) rfl ?_
                        rintro e w24 ⟨v40, rfl, hN⟩
                        refine ⟨_, rfl, hN.sta0 _, ?_⟩; clear hE a; intro a hE
                        replace hM : Mem _ _ w24 [_, _, _, _, _, _, _, _, _, _, _] := hM.call0 hN ⟨rfl, trivial⟩; clear hN
                        refine g_yes hE rfl rfl ?_
                        obtain ⟨cq20, hq20⟩ := own_rd (hM.get 0 rfl)
                        refine s_call hE rfl Tryd.call45 (of_c _ _ [3, 0, 0, 0, 0, 0, 0, 0, 0, 0, 0, 0, 0, 0, 0, 0, 0, 0, 0, 0, 0, 0, 0, 0, 0, 0, 0, 0, 0, 0, 0, 0] (plT 72 [98]) _ _ _ (hM.get 10 rfl) (rd_of_arr (hM.get 9 rfl) (by first | (simp; done) | (simp [*]; done) | (simp; omega))) hq20 (by first | omega | assumption | (simp; done) | (simp; omega) | decide) (by first | omega | assumption | (simp; done) | (simp; omega) | decide)) rfl ?_
                        rintro e w25 ⟨rfl, hN⟩
                        refine ⟨_, rfl, hN.sta0 _, ?_⟩; clear hE a; intro a hE
                        replace hM : Mem _ _ w25 [_, _, _, _, _, _, _, _, _, _, _] := hM.call0 hN trivial; clear hN
                        refine g_yes hE rfl rfl ?_
                        refine s_bin hE rfl rfl (eqa34 (by first | simp | assumption) (by first | simp | assumption)).1 rfl ?_; clear hE a; intro a hE
                        refine s_pickt hE rfl rfl rfl ?_; clear hE a; intro a hE
                        refine s_move hE rfl rfl ?_; clear hE a; intro a hE
                        replace hE := hE.cast 44 rfl (show _ = Value.bool true from (congrArg Value.bool (by first | (with_reducible exact decide_eq_true rfl) | decide +kernel | (simp; done) | (simp [*]; done))))
                        refine g_yes hE rfl rfl ?_
                        refine s_loadN hE rfl (hM.get 7 rfl) row34 rfl (by intro X h; cases h; simp) rfl ?_; clear hE a; intro a hE
                        refine g_yes hE rfl rfl ?_
                        refine s_build (r := .agg (bv [1, 0, 0, 0, 0, 0, 0, 0, 0, 0, 0, 0, 0, 0, 0, 0, 0, 0, 0, 0, 0, 0, 0, 0, 0, 0, 0, 0, 0, 0, 0, 0]).toArray) _ hE rfl (fun w => by kernel_rfl) rfl ?_; clear hE a; intro a hE
                        refine g_yes hE rfl rfl ?_
                        refine s_bin hE rfl rfl (eqa34 (by first | simp | assumption) (by first | simp | assumption)).1 rfl ?_; clear hE a; intro a hE
                        refine s_pickt hE rfl rfl rfl ?_; clear hE a; intro a hE
                        refine s_move hE rfl rfl ?_; clear hE a; intro a hE
                        replace hE := hE.cast 49 rfl (show _ = Value.bool true from (congrArg Value.bool (by first | (with_reducible exact decide_eq_true rfl) | decide +kernel | (simp; done) | (simp [*]; done))))
                        refine g_yes hE rfl rfl ?_
                        refine s_loadN hE rfl (hM.get 6 rfl) row34 rfl (by intro X h; cases h; simp) rfl ?_; clear hE a; intro a hE
                        refine g_yes hE rfl rfl ?_
                        refine s_build (r := .agg (bv [2, 0, 0, 0, 0, 0, 0, 0, 0, 0, 0, 0, 0, 0, 0, 0, 0, 0, 0, 0, 0, 0, 0, 0, 0, 0, 0, 0, 0, 0, 0, 0]).toArray) _ hE rfl (fun w => by kernel_rfl) rfl ?_; clear hE a; intro a hE
                        refine g_yes hE rfl rfl ?_
                        refine s_bin hE rfl rfl (eqa34 (by first | simp | assumption) (by first | simp | assumption)).1 rfl ?_; clear hE a; intro a hE
                        refine s_pickt hE rfl rfl rfl ?_; clear hE a; intro a hE
                        refine s_assign hE rfl rfl ?_; clear hE a; intro a hE
                        refine q_nil (q_ph (q_nil ?_))
                        replace hE : Env a 54 [(0, _), (1, _), (2, _), (3, _), (4, _)] := hE.sel [0, 1, 2, 3, 4] rfl
                        refine hK4 _ _ ?_
                        refine wp_ret ?_
                        refine f_ret1 hE rfl rfl ?_
                        exact ⟨(by first | rfl | (simp; done)), hM.pick [] rfl⟩
                      trivial
                    trivial
                  trivial
                refine o_or rfl ?_ ?_
                · refine g_yes hE rfl rfl ?_
                  refine s_buildSlice (xs := [.const (.int .u8 98)]) (bv [98]) hE hM sl74 rfl rfl rfl (by intro v hv; first | (cases hv; done) | (obtain ⟨x, _, rfl⟩ := List.mem_map.1 (show v ∈ bv [98] from hv); rfl)) rfl rfl rfl rfl ?_; clear hE a; intro a v38 w19 hE hM'
                  clear hM; have hM := hM'; clear hM'
                  replace hM := hM.ownEq (m' := [98].length) (cs' := bv [98]) rfl rfl
                  refine q_nil (q_nx ?_)
                  refine o_re ?_
                  refine o_fl rfl ?_
                  refine q_nil (q_nx ?_)
                  refine o_or rfl ?_ ?_
                  · refine g_yes hE rfl rfl ?_
                    refine s_buildSlice (xs := [.const (.int .u8 98)]) (bv [98]) hE hM sl74 rfl rfl rfl (by intro v hv; first | (cases hv; done) | (obtain ⟨x, _, rfl⟩ := List.mem_map.1 (show v ∈ bv [98] from hv); rfl)) rfl rfl rfl rfl ?_; clear hE a; intro a v34 w20 hE hM'
                    clear hM; have hM := hM'; clear hM'
                    replace hM := hM.ownEq (m' := [98].length) (cs' := bv [98]) rfl rfl
                    refine q_nil (q_nx ?_)
                    refine o_re ?_
                    refine o_fl rfl ?_
                    refine q_nil (q_nx ?_)
                    refine o_or rfl ?_ ?_
                    · refine g_yes hE rfl rfl ?_
                      refine s_convSame hE rfl hM Tryd.underlying74 Tryd.underlying5 (by have hl_ : [98].length = 1 := (by first | (simp; done) | (simp [*]; done) | (simp; omega)); first | omega | decide | (simp; done) | (simp; omega)) (by intro X h; cases h; intro b hb; exact ⟨fun e => ((apart_of_get hM.apart (i := 0) (j := 8) rfl rfl (by decide)).1 b hb).1 (by rw [e]; exact .head _), fun e => ((apart_of_get hM.apart (i := 0) (j := 6) rfl rfl (by decide)).1 b hb).1 (by rw [e]; exact .head _), fun e => ((apart_of_get hM.apart (i := 0) (j := 5) rfl rfl (by decide)).1 b hb).1 (by rw [e]; exact .head _)⟩) rfl ?_; clear hE a; intro a w21 hE hM'; clear hM; have hM := hM'; clear hM'
                      refine q_nil (q_nx ?_)
                      refine o_re ?_
                      refine o_fl rfl ?_
                      refine q_nil (q_nx ?_)
                      refine o_or rfl ?_ ?_
                      · refine g_yes hE rfl rfl ?_
                        obtain ⟨cq21, hq21⟩ := own_rd (hM.get 0 rfl)
                        refine s_call hE rfl Tryd.call38 (thead_c [3, 0, 0, 0, 0, 0, 0, 0, 0, 0, 0, 0, 0, 0, 0, 0, 0, 0, 0, 0, 0, 0, 0, 0, 0, 0, 0, 0, 0, 0, 0, 0] _ [98] _ _ (hM.get 9 rfl) (by have hl_ : [3, 0, 0, 0, 0, 0, 0, 0, 0, 0, 0, 0, 0, 0, 0, 0, 0, 0, 0, 0, 0, 0, 0, 0, 0, 0, 0, 0, 0, 0, 0, 0].length = 32 := (by first | (simp; done) | (simp [*]; done) | (simp; omega)); first | assumption | (simp; done)) hq21 (by have hl_0 : [3, 0, 0, 0, 0, 0, 0, 0, 0, 0, 0, 0, 0, 0, 0, 0, 0, 0, 0, 0, 0, 0, 0, 0, 0, 0, 0, 0, 0, 0, 0, 0].length = 32 := (by first | (simp; done) | (simp [*]; done) | (simp; omega)); have hl_1 : [98].length = 1 := (by first | (simp; done) | (simp [*]; done) | (simp; omega)); first | omega | assumption | (simp; done) | (simp; omega) | decide)) rfl ?_
                        rintro e w22 ⟨rfl, hN⟩
                        refine ⟨_, rfl, hN.sta0 _, ?_⟩; clear hE a; intro a hE
                        replace hM : Mem _ _ w22 [_, _, _, _, _, _, _, _, _, _] := hM.call0 hN trivial; clear hN
                        refine q_nil (q_nx ?_)
                        refine o_re ?_
                        refine o_fl rfl ?_
                        refine q_nil (q_nx ?_)
                        refine o_or rfl ?_ ?_
                        · refine g_yes hE rfl rfl ?_
                          replace hM : Mem _ _ w22 [_, _, _, _, _, _, _, _, _, _] := hM.pick [1, 0, 2, 3, 4, 5, 6, 7, 8, 9] rfl
                          refine s_convSame hE rfl hM Tryd.underlying74 Tryd.underlying5 (by have hl_ : [98].length = 1 := (by first | (simp; done) | (simp [*]; done) | (simp; omega)); first | omega | decide | (simp; done) | (simp; omega)) (by intro X h; cases h; intro b hb; exact ⟨fun e => ((apart_of_get hM.apart (i := 0) (j := 8) rfl rfl (by decide)).1 b hb).1 (by rw [e]; exact .head _), fun e => ((apart_of_get hM.apart (i := 0) (j := 6) rfl rfl (by decide)).1 b hb).1 (by rw [e]; exact .head _), fun e => ((apart_of_get hM.apart (i := 0) (j := 5) rfl rfl (by decide)).1 b hb).1 (by rw [e]; exact .head _)⟩) rfl ?_; clear hE a; intro a w23 hE hM'; clear hM; have hM := hM'; clear hM'
                          refine q_nil (q_nx ?_)
                          refine o_re ?_
                          refine o_leaf rfl rfl ?_
                          refine g_yes hE rfl rfl ?_
                          obtain ⟨cq22, hq22⟩ := own_rd (hM.get 0 rfl)
                          refine s_call hE rfl Tryd.call33 (bheadtext_c _ [98] _ _ hq22 (by first | omega | assumption | (simp; done) | (simp; omega) | decide)) rfl ?_
                          rintro e w24 ⟨v40, rfl, hN⟩
                          refine ⟨_, rfl, hN.sta0 _, ?_⟩; clear hE a; intro a hE
                          replace hM : Mem _ _ w24 [_, _, _, _, _, _, _, _, _, _, _] := hM.call0 hN ⟨rfl, trivial⟩; clear hN
                          refine g_yes hE rfl rfl ?_
                          obtain ⟨cq23, hq23⟩ := own_rd (hM.get 0 rfl)
                          refine s_call hE rfl Tryd.call45 (of_c _ _ [3, 0, 0, 0, 0, 0, 0, 0, 0, 0, 0, 0, 0, 0, 0, 0, 0, 0, 0, 0, 0, 0, 0, 0, 0, 0, 0, 0, 0, 0, 0, 0] (plT 72 [98]) _ _ _ (hM.get 10 rfl) (rd_of_arr (hM.get 9 rfl) (by first | (simp; done) | (simp [*]; done) | (simp; omega))) hq23 (by first | omega | assumption | (simp; done) | (simp; omega) | decide) (by first | omega | assumption | (simp; done) | (simp; omega) | decide)) rfl ?_
                          rintro e w25 ⟨rfl, hN⟩
                          refine ⟨_, rfl, hN.sta0 _, ?_⟩; clear hE a; intro a hE
                          replace hM : Mem _ _ w25 [_, _, _, _, _, _, _, _, _, _, _] := hM.call0 hN trivial; clear hN
                          refine g_yes hE rfl rfl ?_
                          refine s_bin hE rfl rfl (eqa34 (by first | simp | assumption) (by first | simp | assumption)).1 rfl ?_; clear hE a; intro a hE
                          refine s_pickt hE rfl rfl rfl ?_; clear hE a; intro a hE
                          refine s_move hE rfl rfl ?_; clear hE a; intro a hE
                          replace hE := hE.cast 44 rfl (show _ = Value.bool true from (congrArg Value.bool (by first | (with_reducible exact decide_eq_true rfl) | decide +kernel | (simp; done) | (simp [*]; done))))
                          refine g_yes hE rfl rfl ?_
                          refine s_loadN hE rfl (hM.get 7 rfl) row34 rfl (by intro X h; cases h; simp) rfl ?_; clear hE a; intro a hE
                          refine g_yes hE rfl rfl ?_
                          refine s_build (r := .agg (bv [1, 0, 0, 0, 0, 0, 0, 0, 0, 0, 0, 0, 0, 0, 0, 0, 0, 0, 0, 0, 0, 0, 0, 0, 0, 0, 0, 0, 0, 0, 0, 0]).toArray) _ hE rfl (fun w => by kernel_rfl) rfl ?_; clear hE a; intro a hE
                          refine g_yes hE rfl rfl ?_
                          refine s_bin hE rfl rfl (eqa34 (by first | simp | assumption) (by first | simp | assumption)).1 rfl ?_; clear hE a; intro a hE
                          refine s_pickt hE rfl rfl rfl ?_; clear hE a; intro a hE
                          refine s_move hE rfl rfl ?_; clear hE a; intro a hE
                          replace hE := hE.cast 49 rfl (show _ = Value.bool true from (congrArg Value.bool (by first | (with_reducible exact decide_eq_true rfl) | decide +kernel | (simp; done) | (simp [*]; done))))
                          refine g_yes hE rfl rfl ?_
                          refine s_loadN hE rfl (hM.get 6 rfl) row34 rfl (by intro X h; cases h; simp) rfl ?_; clear hE a; intro a hE
                          refine g_yes hE rfl rfl ?_
                          refine s_build (r := .agg (bv [2, 0, 0, 0, 0, 0, 0, 0, 0, 0, 0, 0, 0, 0, 0, 0, 0, 0, 0, 0, 0, 0, 0, 0, 0, 0, 0, 0, 0, 0, 0, 0]).toArray) _ hE rfl (fun w => by kernel_rfl) rfl ?_; clear hE a; intro a hE
                          refine g_yes hE rfl rfl ?_
                          refine s_bin hE rfl rfl (eqa34 (by first | simp | assumption) (by first | simp | assumption)).1 rfl ?_; clear hE a; intro a hE
                          refine s_pickt hE rfl rfl rfl ?_; clear hE a; intro a hE
                          refine s_assign hE rfl rfl ?_; clear hE a; intro a hE
                          refine q_nil (q_ph (q_nil ?_))
                          replace hE : Env a 54 [(0, _), (1, _), (2, _), (3, _), (4, _)] := hE.sel [0, 1, 2, 3, 4] rfl
                          refine hK4 _ _ ?_
                          refine wp_ret ?_
                          refine f_ret1 hE rfl rfl ?_
                          exact ⟨(by first | rfl | (simp; done)), hM.pick [] rfl⟩
                        trivial
                      refine o_or rfl ?_ ?_
                      · refine g_yes hE rfl rfl ?_
                        replace hM : Mem _ _ w21 [_, _, _, _, _, _, _, _, _, _] := hM.pick [1, 0, 2, 3, 4, 5, 6, 7, 8, 9] rfl
                        refine s_convSame hE rfl hM Tryd.underlying74 Tryd.underlying5 (by have hl_ : [98].length = 1 := (by first | (simp; done) | (simp [*]; done) | (simp; omega)); first | omega | decide | (simp; done) | (simp; omega)) (by intro X h; cases h; intro b hb; exact ⟨fun e => ((apart_of_get hM.apart (i := 0) (j := 8) rfl rfl (by decide)).1 b hb).1 (by rw [e]; exact .head _), fun e => ((apart_of_get hM.apart (i := 0) (j := 6) rfl rfl (by decide)).1 b hb).1 (by rw [e]; exact .head _), fun e => ((apart_of_get hM.apart (i := 0) (j := 5) rfl rfl (by decide)).1 b hb).1 (by rw [e]; exact .head _)⟩) rfl ?_; clear hE a; intro a w22 hE hM'; clear hM; have hM := hM'; clear hM'
                        refine q_nil (q_nx ?_)
                        refine o_re ?_
                        refine o_leaf rfl rfl ?_
                        refine g_yes hE rfl rfl ?_
                        obtain ⟨cq24, hq24⟩ := own_rd (hM.get 1 rfl)
                        refine s_call hE rfl Tryd.call38 (thead_c [3, 0, 0, 0, 0, 0, 0, 0, 0, 0, 0, 0, 0, 0, 0, 0, 0, 0, 0, 0, 0, 0, 0, 0, 0, 0, 0, 0, 0, 0, 0, 0] _ [98] _ _ (hM.get 9 rfl) (by have hl_ : [3, 0, 0, 0, 0, 0, 0, 0, 0, 0, 0, 0, 0, 0, 0, 0, 0, 0, 0, 0, 0, 0, 0, 0, 0, 0, 0, 0, 0, 0, 0, 0].length = 32 := (by first | (simp; done) | (simp [*]; done) | (simp; omega)); first | assumption | (simp; done)) hq24 (by have hl_0 : [3, 0, 0, 0, 0, 0, 0, 0, 0, 0, 0, 0, 0, 0, 0, 0, 0, 0, 0, 0, 0, 0, 0, 0, 0, 0, 0, 0, 0, 0, 0, 0].length = 32 := (by first | (simp; done) | (simp [*]; done) | (simp; omega)); have hl_1 : [98].length = 1 := (by first | (simp; done) | (simp [*]; done) | (simp; omega)); first | omega | assumption | (simp; done) | (simp; omega) | decide)) rfl ?_
                        rintro e w23 ⟨rfl, hN⟩
                        refine ⟨_, rfl, hN.sta0 _, ?_⟩; clear hE a; intro a hE
                        replace hM : Mem _ _ w23 [_, _, _, _, _, _, _, _, _, _] := hM.call0 hN trivial; clear hN
                        refine g_yes hE rfl rfl ?_
                        obtain ⟨cq25, hq25⟩ := own_rd (hM.get 0 rfl)
                        refine s_call hE rfl Tryd.call33 (bheadtext_c _ [98] _ _ hq25 (by first | omega | assumption | (simp; done) | (simp; omega) | decide)) rfl ?_
                        rintro e w24 ⟨v40, rfl, hN⟩
                        refine ⟨_, rfl, hN.sta0 _, ?_⟩; clear hE a; intro a hE
                        replace hM : Mem _ _ w24 [_, _, _, _, _, _, _, _, _, _, _] := hM.call0 hN ⟨rfl, trivial⟩; clear hN
                        refine g_yes hE rfl rfl ?_
                        obtain ⟨cq26, hq26⟩ := own_rd (hM.get 0 rfl)
                        refine s_call hE rfl Tryd.call45 (of_c _ _ [3, 0, 0, 0, 0, 0, 0, 0, 0, 0, 0, 0, 0, 0, 0, 0, 0, 0, 0, 0, 0, 0, 0, 0, 0, 0, 0, 0, 0, 0, 0, 0] (plT 72 [98]) _ _ _ (hM.get 10 rfl) (rd_of_arr (hM.get 9 rfl) (by first | (simp; done) | (simp [*]; done) | (simp; omega))) hq26 (by first | omega | assumption | (simp; done) | (simp; omega) | decide) (by first | omega | assumption | (simp; done) | (simp; omega) | decide)) rfl ?_
                        rintro e w25 ⟨rfl, hN⟩
                        refine ⟨_, rfl, hN.sta0 _, ?_⟩; clear hE a; intro a hE
                        replace hM : Mem _ _ w25 [_, _, _, _, _, _, _, _, _, _, _] := hM.call0 hN trivial; clear hN
                        refine g_yes hE rfl rfl ?_
                        refine s_bin hE rfl rfl (eqa34 (by first | simp | assumption) (by first | simp | assumption)).1 rfl ?_; clear hE a; intro a hE
                        refine s_pickt hE rfl rfl rfl ?_; clear hE a; intro a hE
                        refine s_move hE rfl rfl ?_; clear hE a; intro a hE
                        replace hE := hE.cast 44 rfl (show _ = Value.bool true from (congrArg Value.bool (by first | (with_reducible exact decide_eq_true rfl) | decide +kernel | (simp; done) | (simp [*]; done))))
                        refine g_yes hE rfl rfl ?_
                        refine s_loadN hE rfl (hM.get 7 rfl) row34 rfl (by intro X h; cases h; simp) rfl ?_; clear hE a; intro a hE
                        refine g_yes hE rfl rfl ?_
                        refine s_build (r := .agg (bv [1, 0, 0, 0, 0, 0, 0, 0, 0, 0, 0, 0, 0, 0, 0, 0, 0, 0, 0, 0, 0, 0, 0, 0, 0, 0, 0, 0, 0, 0, 0, 0]).toArray) _ hE rfl (fun w => by kernel_rfl) rfl ?_; clear hE a; intro a hE
                        refine g_yes hE rfl rfl ?_
                        refine s_bin hE rfl rfl (eqa34 (by first | simp | assumption) (by first | simp | assumption)).1 rfl ?_; clear hE a; intro a hE
                        refine s_pickt hE rfl rfl rfl ?_; clear hE a; intro a hE
                        refine s_move hE rfl rfl ?_; clear hE a; intro a hE
                        replace hE := hE.cast 49 rfl (show _ = Value.bool true from (congrArg Value.bool (by first | (with_reducible exact decide_eq_true rfl) | decide +kernel | (simp; done) | (simp [*]; done))))
                        refine g_yes hE rfl rfl ?_
                        refine s_loadN hE rfl (hM.get 6 rfl) row34 rfl (by intro X h; cases h; simp) rfl ?_; clear hE a; intro a hE
                        refine g_yes hE rfl rfl ?_
                        refine s_build (r := .agg (bv [2, 0, 0, 0, 0, 0, 0, 0, 0, 0, 0, 0, 0, 0, 0, 0, 0, 0, 0, 0, 0, 0, 0, 0, 0, 0, 0, 0, 0, 0, 0, 0]).toArray) _ hE rfl (fun w => by kernel_rfl) rfl ?_; clear hE a; intro a hE
                        refine g_yes hE rfl rfl ?_
                        refine s_bin hE rfl rfl (eqa34 (by first | simp | assumption) (by first | simp | assumption)).1 rfl ?_; clear hE a; intro a hE
                        refine s_pickt hE rfl rfl rfl ?_; clear hE a; intro a hE
                        refine s_assign hE rfl rfl ?_; clear hE a; intro a hE
                        refine q_nil (q_ph (q_nil ?_))
                        replace hE : Env a 54 [(0, _), (1, _), (2, _), (3, _), (4, _)] := hE.sel [0, 1, 2, 3, 4] rfl
                        refine hK4 _ _ ?_
                        refine wp_ret ?_
                        refine f_ret1 hE rfl rfl ?_
                        exact ⟨(by first | rfl | (simp; done)), hM.pick [] rfl⟩
                      trivial
                    refine o_or rfl ?_ ?_
                    · refine g_yes hE rfl rfl ?_
                      replace hM : Mem _ _ w20 [_, _, _, _, _, _, _, _, _, _] := hM.pick [1, 0, 2, 3, 4, 5, 6, 7, 8, 9] rfl
                      refine s_convSame hE rfl hM Tryd.underlying74 Tryd.underlying5 (by have hl_ : [98].length = 1 := (by first | (simp; done) | (simp [*]; done) | (simp; omega)); first | omega | decide | (simp; done) | (simp; omega)) (by intro X h; cases h; intro b hb; exact ⟨fun e => ((apart_of_get hM.apart (i := 0) (j := 8) rfl rfl (by decide)).1 b hb).1 (by rw [e]; exact .head _), fun e => ((apart_of_get hM.apart (i := 0) (j := 6) rfl rfl (by decide)).1 b hb).1 (by rw [e]; exact .head _), fun e => ((apart_of_get hM.apart (i := 0) (j := 5) rfl rfl (by decide)).1 b hb).1 (by rw [e]; exact .head _)⟩) rfl ?_; clear hE a; intro a w21 hE hM'; clear hM; have hM := hM'; clear hM'
                      refine q_nil (q_nx ?_)
                      refine o_re ?_
                      refine o_fl rfl ?_
                      refine q_nil (q_nx ?_)
                      refine o_or rfl ?_ ?_
                      · refine g_yes hE rfl rfl ?_
                        replace hM : Mem _ _ w21 [_, _, _, _, _, _, _, _, _, _] := hM.pick [1, 0, 2, 3, 4, 5, 6, 7, 8, 9] rfl
                        refine s_convSame hE rfl hM Tryd.underlying74 Tryd.underlying5 (by have hl_ : [98].length = 1 := (by first | (simp; done) | (simp [*]; done) | (simp; omega)); first | omega | decide | (simp; done) | (simp; omega)) (by intro X h; cases h; intro b hb; exact ⟨fun e => ((apart_of_get hM.apart (i := 0) (j := 8) rfl rfl (by decide)).1 b hb).1 (by rw [e]; exact .head _), fun e => ((apart_of_get hM.apart (i := 0) (j := 6) rfl rfl (by decide)).1 b hb).1 (by rw [e]; exact .head _), fun e => ((apart_of_get hM.apart (i := 0) (j := 5) rfl rfl (by decide)).1 b hb).1 (by rw [e]; exact .head _)⟩) rfl ?_; clear hE a; intro a w22 hE hM'; clear hM; have hM := hM'; clear hM'
                        refine q_nil (q_nx ?_)
                        refine o_re ?_
                        refine o_leaf rfl rfl ?_
                        refine g_yes hE rfl rfl ?_
                        obtain ⟨cq27, hq27⟩ := own_rd (hM.get 0 rfl)
                        refine s_call hE rfl Tryd.call38 (thead_c [3, 0, 0, 0, 0, 0, 0, 0, 0, 0, 0, 0, 0, 0, 0, 0, 0, 0, 0, 0, 0, 0, 0, 0, 0, 0, 0, 0, 0, 0, 0, 0] _ [98] _ _ (hM.get 9 rfl) (by have hl_ : [3, 0, 0, 0, 0, 0, 0, 0, 0, 0, 0, 0, 0, 0, 0, 0, 0, 0, 0, 0, 0, 0, 0, 0, 0, 0, 0, 0, 0, 0, 0, 0].length = 32 := (by first | (simp; done) | (simp [*]; done) | (simp; omega)); first | assumption | (simp; done)) hq27 (by have hl_0 : [3, 0, 0, 0, 0, 0, 0, 0, 0, 0, 0, 0, 0, 0, 0, 0, 0, 0, 0, 0, 0, 0, 0, 0, 0, 0, 0, 0, 0, 0, 0, 0].length = 32 := (by first | (simp; done) | (simp [*]; done) | (simp; omega)); have hl_1 : [98].length = 1 := (by first | (simp; done) | (simp [*]; done) | (simp; omega)); first | omega | assumption | (simp; done) | (simp; omega) | decide)) rfl ?_
                        rintro e w23 ⟨rfl, hN⟩
                        refine ⟨_, rfl, hN.sta0 _, ?_⟩; clear hE a; intro a hE
                        replace hM : Mem _ _ w23 [_, _, _, _, _, _, _, _, _, _] := hM.call0 hN trivial; clear hN
                        refine g_yes hE rfl rfl ?_
                        obtain ⟨cq28, hq28⟩ := own_rd (hM.get 1 rfl)
                        refine s_call hE rfl Tryd.call33 (bheadtext_c _ [98] _ _ hq28 (by first | omega | assumption | (simp; done) | (simp; omega) | decide)) rfl ?_
                        rintro e w24 ⟨v40, rfl, hN⟩
                        refine ⟨_, rfl, hN.sta0 _, ?_⟩; clear hE a; intro a hE
                        replace hM : Mem _ _ w24 [_, _, _, _, _, _, _, _, _, _, _] := hM.call0 hN ⟨rfl, trivial⟩; clear hN
                        refine g_yes hE rfl rfl ?_
                        obtain ⟨cq29, hq29⟩ := own_rd (hM.get 0 rfl)
                        refine s_call hE rfl Tryd.call45 (of_c _ _ [3, 0, 0, 0, 0, 0, 0, 0, 0, 0, 0, 0, 0, 0, 0, 0, 0, 0, 0, 0, 0, 0, 0, 0, 0, 0, 0, 0, 0, 0, 0, 0] (plT 72 [98]) _ _ _ (hM.get 10 rfl) (rd_of_arr (hM.get 9 rfl) (by first | (simp; done) | (simp [*]; done) | (simp; omega))) hq29 (by first | omega | assumption | (simp; done) | (simp; omega) | decide) (by first | omega | assumption | (simp; done) | (simp; omega) | decide)) rfl ?_
                        rintro e w25 ⟨rfl, hN⟩
                        refine ⟨_, rfl, hN.sta0 _, ?_⟩; clear hE a; intro a hE
                        replace hM : Mem _ _ w25 [_, _, _, _, _, _, _, _, _, _, _] := hM.call0 hN trivial; clear hN
                        refine g_yes hE rfl rfl ?_
                        refine s_bin hE rfl rfl (eqa34 (by first | simp | assumption) (by first | simp | assumption)).1 rfl ?_; clear hE a; intro a hE
                        refine s_pickt hE rfl rfl rfl ?_; clear hE a; intro a hE
                        refine s_move hE rfl rfl ?_; clear hE a; intro a hE
                        replace hE := hE.cast 44 rfl (show _ = Value.bool true from (congrArg Value.bool (by first | (with_reducible exact decide_eq_true rfl) | decide +kernel | (simp; done) | (simp [*]; done))))
                        refine g_yes hE rfl rfl ?_
                        refine s_loadN hE rfl (hM.get 7 rfl) row34 rfl (by intro X h; cases h; simp) rfl ?_; clear hE a; intro a hE
                        refine g_yes hE rfl rfl ?_
                        refine s_build (r := .agg (bv [1, 0, 0, 0, 0, 0, 0, 0, 0, 0, 0, 0, 0, 0, 0, 0, 0, 0, 0, 0, 0, 0, 0, 0, 0, 0, 0, 0, 0, 0, 0, 0]).toArray) _ hE rfl (fun w => by kernel_rfl) rfl ?_; clear hE a; intro a hE
                        refine g_yes hE rfl rfl ?_
                        refine s_bin hE rfl rfl (eqa34 (by first | simp | assumption) (by first | simp | assumption)).1 rfl ?_; clear hE a; intro a hE
                        refine s_pickt hE rfl rfl rfl ?_; clear hE a; intro a hE
                        refine s_move hE rfl rfl ?_; clear hE a; intro a hE
                        replace hE := hE.cast 49 rfl (show _ = Value.bool true from (congrArg Value.bool (by first | (with_reducible exact decide_eq_true rfl) | decide +kernel | (simp; done) | (simp [*]; done))))
                        refine g_yes hE rfl rfl ?_
                        refine s_loadN hE rfl (hM.get 6 rfl) row34 rfl (by intro X h; cases h; simp) rfl ?_; clear hE a; intro a hE
                        refine g_yes hE rfl rfl ?_
                        refine s_build (r := .agg (bv [2, 0, 0, 0, 0, 0, 0, 0, 0, 0, 0, 0, 0, 0, 0, 0, 0, 0, 0, 0, 0, 0, 0, 0, 0, 0, 0, 0, 0, 0, 0, 0]).toArray) _ hE rfl (fun w => by kernel_rfl) rfl ?_; clear hE a; intro a hE
                        refine g_yes hE rfl rfl ?_
                        refine s_bin hE rfl rfl (eqa34 (by first | simp | assumption) (by first | simp | assumption)).1 rfl ?_; clear hE a; intro a hE
                        refine s_pickt hE rfl rfl rfl ?_; clear hE a; intro a hE
                        refine s_assign hE rfl rfl ?_; clear hE a; intro a hE
                        refine q_nil (q_ph (q_nil ?_))
                        replace hE : Env a 54 [(0, _), (1, _), (2, _), (3, _), (4, _)] := hE.sel [0, 1, 2, 3, 4] rfl
                        refine hK4 _ _ ?_
                        refine wp_ret ?_
                        refine f_ret1 hE rfl rfl ?_
                        exact ⟨(by first | rfl | (simp; done)), hM.pick [] rfl⟩
                      trivial
                    trivial
                  refine o_or rfl ?_ ?_
                  · refine g_yes hE rfl rfl ?_
                    refine s_convSame hE rfl hM Tryd.underlying74 Tryd.underlying5 (by have hl_ : [98].length = 1 := (by first | (simp; done) | (simp [*]; done) | (simp; omega)); first | omega | decide | (simp; done) | (simp; omega)) (by intro X h; cases h; intro b hb; exact ⟨fun e => ((apart_of_get hM.apart (i := 0) (j := 7) rfl rfl (by decide)).1 b hb).1 (by rw [e]; exact .head _), fun e => ((apart_of_get hM.apart (i := 0) (j := 5) rfl rfl (by decide)).1 b hb).1 (by rw [e]; exact .head _), fun e => ((apart_of_get hM.apart (i := 0) (j := 4) rfl rfl (by decide)).1 b hb).1 (by rw [e]; exact .head _)⟩) rfl ?_; clear hE a; intro a w20 hE hM'; clear hM; have hM := hM'; clear hM'
                    refine q_nil (q_nx ?_)
                    refine o_re ?_
                    refine o_fl rfl ?_
                    refine q_nil (q_nx ?_)
                    refine o_or rfl ?_ ?_
                    · refine g_yes hE rfl rfl ?_
                      refine s_buildSlice (xs := [.const (.int .u8 98)]) (bv [98]) hE hM sl74 rfl rfl rfl (by intro v hv; first | (cases hv; done) | (obtain ⟨x, _, rfl⟩ := List.mem_map.1 (show v ∈ bv [98] from hv); rfl)) rfl rfl rfl rfl ?_; clear hE a; intro a v34 w21 hE hM'
                      clear hM; have hM := hM'; clear hM'
                      replace hM := hM.ownEq (m' := [98].length) (cs' := bv [98]) rfl rfl
                      refine q_nil (q_nx ?_)
                      refine o_re ?_
                      refine o_fl rfl ?_
                      refine q_nil (q_nx ?_)
                      refine o_or rfl ?_ ?_
                      · refine g_yes hE rfl rfl ?_
                        refine s_convSame hE rfl hM Tryd.underlying74 Tryd.underlying5 (by have hl_ : [98].length = 1 := (by first | (simp; done) | (simp [*]; done) | (simp; omega)); first | omega | decide | (simp; done) | (simp; omega)) (by intro X h; cases h; intro b hb; exact ⟨fun e => ((apart_of_get hM.apart (i := 0) (j := 8) rfl rfl (by decide)).1 b hb).1 (by rw [e]; exact .head _), fun e => ((apart_of_get hM.apart (i := 0) (j := 6) rfl rfl (by decide)).1 b hb).1 (by rw [e]; exact .head _), fun e => ((apart_of_get hM.apart (i := 0) (j := 5) rfl rfl (by decide)).1 b hb).1 (by rw [e]; exact .head _)⟩) rfl ?_; clear hE a; intro a w22 hE hM'; clear hM; have hM := hM'; clear hM'
                        refine q_nil (q_nx ?_)
                        refine o_re ?_
                        refine o_leaf rfl rfl ?_
                        refine g_yes hE rfl rfl ?_
                        obtain ⟨cq30, hq30⟩ := own_rd (hM.get 0 rfl)
                        refine s_call hE rfl Tryd.call38 (thead_c [3, 0, 0, 0, 0, 0, 0, 0, 0, 0, 0, 0, 0, 0, 0, 0, 0, 0, 0, 0, 0, 0, 0, 0, 0, 0, 0, 0, 0, 0, 0, 0] _ [98] _ _ (hM.get 9 rfl) (by have hl_ : [3, 0, 0, 0, 0, 0, 0, 0, 0, 0, 0, 0, 0, 0, 0, 0, 0, 0, 0, 0, 0, 0, 0, 0, 0, 0, 0, 0, 0, 0, 0, 0].length = 32 := (by first | (simp; done) | (simp [*]; done) | (simp; omega)); first | assumption | (simp; done)) hq30 (by have hl_0 : [3, 0, 0, 0, 0, 0, 0, 0, 0, 0, 0, 0, 0, 0, 0, 0, 0, 0, 0, 0, 0, 0, 0, 0, 0, 0, 0, 0, 0, 0, 0, 0].length = 32 := (by first | (simp; done) | (simp [*]; done) | (simp; omega)); have hl_1 : [98].length = 1 := (by first | (simp; done) | (simp [*]; done) | (simp; omega)); first | omega | assumption | (simp; done) | (simp; omega) | decide)) rfl ?_
                        rintro e w23 ⟨rfl, hN⟩
                        refine ⟨_, rfl, hN.sta0 _, ?_⟩; clear hE a; intro a hE
                        replace hM : Mem _ _ w23 [_, _, _, _, _, _, _, _, _, _] := hM.call0 hN trivial; clear hN
                        refine g_yes hE rfl rfl ?_
                        obtain ⟨cq31, hq31⟩ := own_rd (hM.get 1 rfl)
                        refine s_call hE rfl Tryd.call33 (bheadtext_c _ [98] _ _ hq31 (by first | omega | assumption | (simp; done) | (simp; omega) | decide)) rfl ?_
                        rintro e w24 ⟨v40, rfl, hN⟩
                        refine ⟨_, rfl, hN.sta0 _, ?_⟩; clear hE a; intro a hE
                        replace hM : Mem _ _ w24 [_, _, _, _, _, _, _, _, _, _, _] := hM.call0 hN ⟨rfl, trivial⟩; clear hN
                        refine g_yes hE rfl rfl ?_
                        obtain ⟨cq32, hq32⟩ := own_rd (hM.get 0 rfl)
                        refine s_call hE rfl Tryd.call45 (of_c _ _ [3, 0, 0, 0, 0, 0, 0, 0, 0, 0, 0, 0, 0, 0, 0, 0, 0, 0, 0, 0, 0, 0, 0, 0, 0, 0, 0, 0, 0, 0, 0, 0] (plT 72 [98]) _ _ _ (hM.get 10 rfl) (rd_of_arr (hM.get 9 rfl) (by first | (simp; done) | (simp [*]; done) | (simp; omega))) hq32 (by first | omega | assumption | (simp; done) | (simp; omega) | decide) (by first | omega | assumption | (simp; done) | (simp; omega) | decide)) rfl ?_
                        rintro e w25 ⟨rfl, hN⟩
                        refine ⟨_, rfl, hN.sta0 _, ?_⟩; clear hE a; intro a hE
                        replace hM : Mem _ _ w25 [_, _, _, _, _, _, _, _, _, _, _] := hM.call0 hN trivial; clear hN
                        refine g_yes hE rfl rfl ?_
                        refine s_bin hE rfl rfl (eqa34 (by first | simp | assumption) (by first | simp | assumption)).1 rfl ?_; clear hE a; intro a hE
                        refine s_pickt hE rfl rfl rfl ?_; clear hE a; intro a hE
                        refine s_move hE rfl rfl ?_; clear hE a; intro a hE
                        replace hE := hE.cast 44 rfl (show _ = Value.bool true from (congrArg Value.bool (by first | (with_reducible exact decide_eq_true rfl) | decide +kernel | (simp; done) | (simp [*]; done))))
                        refine g_yes hE rfl rfl ?_
                        refine s_loadN hE rfl (hM.get 7 rfl) row34 rfl (by intro X h; cases h; simp) rfl ?_; clear hE a; intro a hE
                        refine g_yes hE rfl rfl ?_
                        refine s_build (r := .agg (bv [1, 0, 0, 0, 0, 0, 0, 0, 0, 0, 0, 0, 0, 0, 0, 0, 0, 0, 0, 0, 0, 0, 0, 0, 0, 0, 0, 0, 0, 0, 0, 0]).toArray) _ hE rfl (fun w => by kernel_rfl) rfl ?_; clear hE a; intro a hE
                        refine g_yes hE rfl rfl ?_
                        refine s_bin hE rfl rfl (eqa34 (by first | simp | assumption) (by first | simp | assumption)).1 rfl ?_; clear hE a; intro a hE
                        refine s_pickt hE rfl rfl rfl ?_; clear hE a; intro a hE
                        refine s_move hE rfl rfl ?_; clear hE a; intro a hE
                        replace hE := hE.cast 49 rfl (show _ = Value.bool true from (congrArg Value.bool (by first | (with_reducible exact decide_eq_true rfl) | decide +kernel | (simp; done) | (simp [*]; done))))
                        refine g_yes hE rfl rfl ?_
                        refine s_loadN hE rfl (hM.get 6 rfl) row34 rfl (by intro X h; cases h; simp) rfl ?_; clear hE a; intro a hE
                        refine g_yes hE rfl rfl ?_
                        refine s_build (r := .agg (bv [2, 0, 0, 0, 0, 0, 0, 0, 0, 0, 0, 0, 0, 0, 0, 0, 0, 0, 0, 0, 0, 0, 0, 0, 0, 0, 0, 0, 0, 0, 0, 0]).toArray) _ hE rfl (fun w => by kernel_rfl) rfl ?_; clear hE a; intro a hE
                        refine g_yes hE rfl rfl ?_
                        refine s_bin hE rfl rfl (eqa34 (by first | simp | assumption) (by first | simp | assumption)).1 rfl ?_; clear hE a; intro a hE
                        refine s_pickt hE rfl rfl rfl ?_; clear hE a; intro a hE
                        refine s_assign hE rfl rfl ?_; clear hE a; intro a hE
                        refine q_nil (q_ph (q_nil ?_))
                        replace hE : Env a 54 [(0, _), (1, _), (2, _), (3, _), (4, _)] := hE.sel [0, 1, 2, 3, 4] rfl
                        refine hK4 _ _ ?_
                        refine wp_ret ?_
                        refine f_ret1 hE rfl rfl ?_
                        exact ⟨(by first | rfl | (simp; done)), hM.pick [] rfl⟩
                      trivial
                    trivial
                  trivial
                trivial
              trivial
            trivial
          trivial
        trivial
      trivial
    trivial
  trivial
set_option maxRecDepth 100000 in
theorem tagsKnown_lifted (os : Os) (started : os.Started) (H : Type) (enc : TypeId × Value → H) :
    ReturnsInHanded {} Tryd.checked os 10 .any (fun w args => (Rows.tagsKnownSpec.pre enc Tryd.prog Tryd.f10 [] false w args ∧ laidMetH Tryd.prog Rows.tagsKnownRow.laid w) ∧ sizedMet enc Tryd.prog Tryd.f10 (OpenSpec.ofChange Rows.tagsKnownSpec) false w args) (Rows.tagsKnownSpec.post enc Tryd.prog Tryd.f10 false true false false) := by
  refine law_liftedL (C := Tryd.checked) (fn := Tryd.f10) (l := Rows.tagsKnownRow.laid) (by kernel_rfl) started (by kernel_rfl) Tryd.func10 rfl (fun ds hl => ?_) rfl Tryd.underlying4 (by kernel_rfl) (of_decide_eq_true (by kernel_rfl)) (by kernel_rfl)
    (ChangeSpec.witness_shaped (enc := enc) (C := Tryd.checked) (os := os) (X := fun w _ => laidMetH Tryd.prog Rows.tagsKnownRow.laid w) false (World.laidAll Tryd.prog os Rows.tagsKnownRow.laid) #[] 8 (World.laidAll_os _ _ _) (World.shaped_of_ZipB (by kernel_rfl) (by kernel_rfl)) (by kernel_rfl) (by kernel_rfl) (by kernel_rfl) (by rw [MakeChecks.laidMetH_plain _ _ _ (by kernel_rfl)]; exact laidMet_laidAll _ (by kernel_rfl) (by kernel_rfl))) ?_
  · rw [Tryd.params10] at hl
    match ds, hl with
    | [], _ => rfl
  · intro W base args ds ps hval hA hw hL
    have hG := glb_of_laid (P := Tryd.prog) (g := 1) (t := 146) (e := 117) (by kernel_rfl) (by kernel_rfl) Tryd.underlying146 Tryd.underlying117 (by kernel_rfl) (by kernel_rfl) (by kernel_rfl) (show laidMet Tryd.prog (_ :: _) W from hL)
    rw [Tryd.params10] at hA hval hw
    obtain ⟨hargs, rfl, rfl⟩ := trodAll_nil hA
    obtain rfl : args = #[] := by cases args; simp_all
    exact tagsKnown_c W hG

/-- The row's statement. -/
theorem tagsKnown_row : Rows.TagsKnownSaid :=
  OpenClaim.holds_of_wide 10 Tryd.f10 rfl rfl rfl rfl rfl rfl rfl ⟨rfl, rfl, rfl, rfl, rfl⟩ rfl rfl rfl rfl rfl (by kernel_rfl) Tryd.func10 (by kernel_rfl)
    (of_decide_eq_true (by kernel_rfl)) (by unfold Func.isWrapper; first | (rw [if_pos (by decide +kernel)]; kernel_rfl) | (rw [if_neg (by decide +kernel)]; exact ⟨rfl, rfl⟩))
    (fun os started H enc _ => tagsKnown_lifted os started H enc)

/-- The statement: the row, its listed variable tied to the program's text. -/
theorem tagsKnown_holds : Rows.TagsKnownCardSaid :=
  Claim7.holds_tied_plain_at .later [] [.data] true (true, "9a4276e042ebfbe6f5d1b1265f391c6ad5393d4175854f4cb6c0d5f7baaceeff") false
    tagsKnown_row (fun _ h => by cases h) (by kernel_rfl) (fun _ h => by cases h) tagsKnown_row_tie rfl ⟨rfl, rfl⟩ (by kernel_rfl) rfl
    (fun f fn hf hfn => by
      obtain rfl : f = 10 := Option.some.inj ((show Tryd.prog.funcNamed "casemate/casematelaw17.TagsKnown" = some 10 by kernel_rfl).symm.trans hf) |>.symm
      obtain rfl : fn = Tryd.f10 := (Option.some.inj (Tryd.func10.symm.trans hfn)).symm
      exact ⟨by kernel_rfl, fun j t ht => by
        rw [Tryd.params10] at ht
        simp at ht⟩)
    (by kernel_rfl)
#print axioms tagsKnown_holds
end Go.Proofs.YtbljddjfcmbnpaaDoor
