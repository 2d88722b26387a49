/- ShaTwoBlocks of casematelaw03 returns true for whatever two blocks and message; they read behind the call as before. No condition. -/
import Derived.Test.YtbjdbiljkkfklaaDoorLx
import Derived.Test.YtbjdbiljkkfklaaDoorTie
import Derived.Test.YtbjdbiljkkfklaaDoorCards
set_option linter.unusedSimpArgs false
set_option linter.unusedVariables false
namespace Go.Proofs.YtbjdbiljkkfklaaDoor
open Go Go.Kx
open Go.ChangeShapes Go.WideShapes Go.ChangeAt Go.RowKit
theorem sl38 : SlT Tryd.prog 38 23 1 24 := ⟨Tryd.underlying38, by kernel_rfl, by kernel_rfl, .slice none 0 0, by kernel_rfl, rfl⟩
set_option maxRecDepth 20000 in
set_option maxHeartbeats 4000000 in
theorem shaTwoBlocks_c (k : List UInt8) (q : List UInt8) (vm : Value) (m : List UInt8) (cm : Nat) (w : World) (hG : (glb 0).holds w) (hQ : tabQ.holds w) (hl_k : k.length = 64) (hl_q : q.length = 64) (hr_m : (rd vm 1 m.length cm (bv m)).holds w) : Calls Tryd.prog 3 #[.agg (bv k).toArray, .agg (bv q).toArray, vm] w fun e w' => e = .returned (.bool true) ∧ Mem w [] w' [] := by
  have hx : k.length % 64 = 0 := by omega
  have hy : q.length % 64 = 0 := by omega
  have hM : Mem w [] w [rd vm 1 m.length cm (bv m), glb 0, tabQ] := Mem.startR w (fun g hg => by
    simp only [List.mem_cons, List.not_mem_nil, or_false] at hg
    rcases hg with rfl | rfl | rfl
    · exact ⟨hr_m, rfl⟩
    · exact ⟨hG, rfl⟩
    · exact ⟨hQ, rfl⟩)
  refine f_enter 62 Tryd.func3 rfl rfl rfl ?_
  intro a hE
  replace hE : Env a 62 [(0, _), (1, _), (2, _)] := hE
  refine wp_seq_k (fun K1 hK1 => ?_)
  refine wp_plain [false, false, true] rfl rfl ?_
  refine s_box (ss := [bv k]) [64] hE hM rfl (by simp [Value.cells]) (by simp [*]) rfl ?_; clear hE a; intro a b3 w1 hE hM'
  clear hM; have hM := hM'; clear hM'
  refine s_box (ss := [bv q]) [64] hE hM rfl (by simp [Value.cells]) (by simp [*]) rfl ?_; clear hE a; intro a b4 w2 hE hM'
  clear hM; have hM := hM'; clear hM'
  refine s_assign hE rfl rfl ?_; clear hE a; intro a hE
  refine q_nil ?_
  replace hE : Env a 62 [(2, _), (3, _), (4, _), (6, _)] := hE.sel [2, 3, 4, 6] rfl
  refine hK1 _ _ ?_
  refine wp_seq_k (fun K2 hK2 => ?_)
  refine wp_seq_k (fun K3 hK3 => ?_)
  refine wp_plain [true, false, false] rfl rfl ?_
  refine s_move hE rfl rfl ?_; clear hE a; intro a hE
  have ho14_0 := rd_one (hM.get 2 rfl)
  refine s_buildSlice (xs := [.tmp 13]) ([vm]) hE hM sl38 rfl rfl rfl (by intro v hv; rw [List.mem_singleton.1 hv]; rw [ho14_0.1]; rfl) (by first | (simp [ho14_0.1]; done) | (simp [ho14_0.1, Value.cells]; done)) rfl rfl rfl ?_; clear hE a; intro a v14 w3 hE hM'
  clear hM; have hM := hM'; clear hM'
  obtain ⟨cl1, hl1⟩ := own_rd (hM.get 0 rfl)
  refine s_call hE rfl Tryd.call16 (long_c _ _ [m] _ _ _ hl1 (rdv_cons (p := m) (hM.get 3 rfl) (rdv_nil _)) (by first | omega | assumption | (simp; done) | (simp; omega) | decide)) rfl ?_
  rintro e w4 ⟨rfl, hN⟩
  refine ⟨_, rfl, trivial, ?_⟩; clear hE a; intro a hE
  replace hM : Mem _ _ w4 [_, _, _, _, _, _] := hM.call0 hN trivial; clear hN
  refine q_nil ?_
  replace hE : Env a 62 [(2, _), (3, _), (4, _), (6, _), (15, _)] := hE.sel [2, 3, 4, 6, 15] rfl
  refine hK3 _ _ ?_
  refine hE.split 15 rfl (fun hb15 hE' => ?_) (fun hb15 hE' => ?_)
  · replace hE := hE'; clear hE'
    refine wp_cond_true (hE.eval rfl) ?_
    refine wp_seq_k (fun K4 hK4 => ?_)
    refine wp_plain [false, true] rfl rfl ?_
    refine s_call hE rfl Tryd.call17 (awake3_c  _ (hM.get 4 rfl) (hM.get 5 rfl)) rfl ?_
    rintro e w5 ⟨rfl, hN⟩
    refine ⟨_, rfl, trivial, ?_⟩; clear hE a; intro a hE
    replace hM : Mem _ _ w5 [_, _, _, _, _, _] := hM.call0 hN trivial; clear hN
    refine s_assign hE rfl rfl ?_; clear hE a; intro a hE
    refine q_nil ?_
    replace hE : Env a 62 [(2, _), (3, _), (4, _), (6, _), (15, _)] := hE.sel [2, 3, 4, 6, 15] rfl
    refine hK4 _ _ ?_
    refine wp_ret ?_
    refine q_then_r ?_
    refine f_ret1 hE rfl rfl ?_
    exact ⟨(by first | rfl | (simp; done)), hM.pick [] rfl⟩
  · replace hE := hE'; clear hE'
    have hlm : m.length ≤ 3000 := longP_no hb15 0 (Nat.succ_pos _)
    refine wp_cond_false (hE.eval rfl) ?_
    refine wp_skip ?_
    refine hK2 _ _ ?_
    refine wp_seq_k (fun K4 hK4 => ?_)
    refine wp_plain [true, false, true, true, true, false, false, true] rfl rfl ?_
    refine s_sliceArr (l := 0) (h := 64) (mx' := 64) hE rfl arr22 rfl rfl rfl (by simp) (by omega) (by omega) (by omega) rfl ?_; clear hE a; intro a hE
    replace hE := hE.cast 18 rfl (show _ = Value.slice (some ⟨b3, 0, none⟩) 64 64 from rfl)
    refine s_call hE rfl Tryd.call18 (pahead_c _ k _ _ (hM.get 4 rfl) (rd_of_arr (hM.get 2 rfl) hl_k) (by have hl_ : k.length = 64 := hl_k; first | omega | (simp; done) | (simp; omega))) rfl ?_
    rintro e w5 ⟨rfl, hN⟩
    refine ⟨_, rfl, trivial, ?_⟩; clear hE a; intro a hE
    replace hM : Mem _ _ w5 [_, _, _, _, _, _] := hM.call0 hN trivial; clear hN
    refine s_move hE rfl rfl ?_; clear hE a; intro a hE
    refine s_extract hE rfl rfl rfl ?_; clear hE a; intro a hE
    refine s_extract hE rfl rfl rfl ?_; clear hE a; intro a hE
    refine s_alloc [8, 1, 1] hE hM zero30 rfl rfl ?_; clear hE a; intro a b7 w6 hE hM'
    clear hM; have hM := hM'; clear hM'
    replace hM := hM.resplit (ss' := [zeroP]) (ns' := [10]) (by simp [zeroP]) (by simp [zeroP])
    refine s_storeSeg 0 (vs := pfL (pfA k)) hE rfl rfl hM rfl sz30 (pfL_length (pfA_ok (by have hl_ : k.length = 64 := hl_k; first | omega | (simp; done) | (simp; omega)))) (pfL_one _) rfl (by simp [zeroP]) rfl (by intro X h; cases h) ?_; intro w7 hM'; clear hM; have hM := hM'; clear hM'
    simp only [List.set_cons_zero] at hM
    refine s_assign hE rfl rfl ?_; clear hE a; intro a hE
    refine q_nil ?_
    replace hE : Env a 62 [(2, _), (3, _), (4, _), (6, _), (7, _), (8, _), (15, _)] := hE.sel [2, 3, 4, 6, 7, 8, 15] rfl
    refine hK4 _ _ ?_
    refine wp_seq_k (fun K5 hK5 => ?_)
    refine wp_plain [true, false, true, true, true, false, false, true] rfl rfl ?_
    refine s_sliceArr (l := 0) (h := 64) (mx' := 64) hE rfl arr22 rfl rfl rfl (by simp) (by omega) (by omega) (by omega) rfl ?_; clear hE a; intro a hE
    replace hE := hE.cast 23 rfl (show _ = Value.slice (some ⟨b4, 0, none⟩) 64 64 from rfl)
    refine s_call hE rfl Tryd.call18 (pahead_c _ q _ _ (hM.get 5 rfl) (rd_of_arr (hM.get 2 rfl) hl_q) (by have hl_ : q.length = 64 := hl_q; first | omega | (simp; done) | (simp; omega))) rfl ?_
    rintro e w8 ⟨rfl, hN⟩
    refine ⟨_, rfl, trivial, ?_⟩; clear hE a; intro a hE
    replace hM : Mem _ _ w8 [_, _, _, _, _, _, _] := hM.call0 hN trivial; clear hN
    refine s_move hE rfl rfl ?_; clear hE a; intro a hE
    refine s_extract hE rfl rfl rfl ?_; clear hE a; intro a hE
    refine s_extract hE rfl rfl rfl ?_; clear hE a; intro a hE
    refine s_alloc [8, 1, 1] hE hM zero30 rfl rfl ?_; clear hE a; intro a b9 w9 hE hM'
    clear hM; have hM := hM'; clear hM'
    replace hM := hM.resplit (ss' := [zeroP]) (ns' := [10]) (by simp [zeroP]) (by simp [zeroP])
    refine s_storeSeg 0 (vs := pfL (pfA q)) hE rfl rfl hM rfl sz30 (pfL_length (pfA_ok (by have hl_ : q.length = 64 := hl_q; first | omega | (simp; done) | (simp; omega)))) (pfL_one _) rfl (by simp [zeroP]) rfl (by intro X h; cases h) ?_; intro w10 hM'; clear hM; have hM := hM'; clear hM'
    simp only [List.set_cons_zero] at hM
    refine s_assign hE rfl rfl ?_; clear hE a; intro a hE
    refine q_nil ?_
    replace hE : Env a 62 [(2, _), (3, _), (4, _), (6, _), (7, _), (8, _), (9, _), (10, _), (15, _)] := hE.sel [2, 3, 4, 6, 7, 8, 9, 10, 15] rfl
    refine hK5 _ _ ?_
    refine wp_seq_k (fun K6 hK6 => ?_)
    refine wp_plain [true, true, false, false, false] rfl rfl ?_
    refine s_loadN hE rfl (hM.get 1 rfl) row30 rfl (by intro X h; cases h) rfl ?_; clear hE a; intro a hE
    refine s_move hE rfl rfl ?_; clear hE a; intro a hE
    refine s_call hE rfl Tryd.call19 (psums_c (pfA k) _ m _ _ (hM.get 6 rfl) (hM.get 5 rfl) (pfA_ok (by have hl_ : k.length = 64 := hl_k; first | omega | (simp; done) | (simp; omega))) (by first | omega | (simp; done) | (simp; omega))) rfl ?_
    rintro e w11 ⟨rfl, hN⟩
    refine ⟨_, rfl, trivial, ?_⟩; clear hE a; intro a hE
    replace hM : Mem _ _ w11 [_, _, _, _, _, _, _, _] := hM.call0 hN trivial; clear hN
    refine s_alloc [32] hE hM zero35 rfl rfl ?_; clear hE a; intro a b11 w12 hE hM'
    clear hM; have hM := hM'; clear hM'
    refine s_storeSeg 0 hE rfl rfl hM rfl sz35 ((bv_length _).trans (pfS_len ..)) (bv_one _) rfl ((bv_length _).trans (by first | (simp; done) | (simp [*]; done) | (simp; omega))) rfl (by intro X h; cases h) ?_; intro w13 hM'; clear hM; have hM := hM'; clear hM'
    simp only [List.set_cons_zero, List.set_cons_succ] at hM
    refine q_nil ?_
    replace hE : Env a 62 [(2, _), (3, _), (4, _), (6, _), (7, _), (8, _), (9, _), (10, _), (11, _), (15, _)] := hE.sel [2, 3, 4, 6, 7, 8, 9, 10, 11, 15] rfl
    refine hK6 _ _ ?_
    refine wp_seq_k (fun K7 hK7 => ?_)
    refine wp_plain [false, true, false, true, false, false, false, false] rfl rfl ?_
    refine s_buildSlice (xs := []) ([]) hE hM sl23 rfl rfl rfl (by intro v hv; cases hv) rfl rfl rfl rfl ?_; clear hE a; intro a v30 w14 hE hM'
    clear hM; have hM := hM'; clear hM'
    replace hM := hM.ownEq (m' := ([] : List UInt8).length) (cs' := bv ([] : List UInt8)) rfl rfl
    refine s_sliceArr (l := 0) (h := 64) (mx' := 64) hE rfl arr22 rfl rfl rfl (by simp) (by omega) (by omega) (by omega) rfl ?_; clear hE a; intro a hE
    replace hE := hE.cast 31 rfl (show _ = Value.slice (some ⟨b3, 0, none⟩) 64 64 from rfl)
    refine s_append hE rfl rfl hM sl23 (Src.rd Tryd.underlying23 (rd_of_arr (hM.get 6 rfl) hl_k) (bv_one _)) (len47 (by have hl_x : ([] : List UInt8).length = 0 := (by first | (simp; done) | (simp [*]; done) | (simp; omega)); have hl_y : k.length = 64 := hl_k; first | omega | (simp; done) | (simp; omega))) (by have hl_x : ([] : List UInt8).length = 0 := (by first | (simp; done) | (simp [*]; done) | (simp; omega)); have hl_y : k.length = 64 := hl_k; first | omega | (simp; done) | (simp; omega)) (by intro X h; cases h) rfl ?_; clear hE a; intro a v32 w15 hE hM'; clear hM; have hM := hM'; clear hM'
    replace hM := Mem.ownNil (q := k) hM rfl (by first | rfl | (simp; done))
    refine s_move hE rfl rfl ?_; clear hE a; intro a hE
    refine s_append hE rfl rfl hM sl23 (Src.rd Tryd.underlying23 (hM.get 7 rfl) (bv_one _)) (len47 (by have hl_x : k.length = 64 := hl_k; first | omega | (simp; done) | (simp; omega))) (by have hl_x : k.length = 64 := hl_k; first | omega | (simp; done) | (simp; omega)) (by intro X h; cases h) rfl ?_; clear hE a; intro a v34 w16 hE hM'; clear hM; have hM := hM'; clear hM'
    replace hM := Mem.ownApp (p := k) (q := m) hM (by first | rfl | (simp; done))
    obtain ⟨cq2, hq2⟩ := own_rd (hM.get 0 rfl)
    refine s_call hE rfl Tryd.call20 (sha_c _ (k ++ m) _ _ (hM.get 8 rfl) hq2 (by have hl_ : (k ++ m).length = 64 + m.length := (by have hl_p : k.length = 64 := hl_k; rw [List.length_append]; omega); first | omega | (simp; done) | (simp; omega))) rfl ?_
    rintro e w17 ⟨rfl, hN⟩
    refine ⟨_, rfl, trivial, ?_⟩; clear hE a; intro a hE
    replace hM : Mem _ _ w17 [_, _, _, _, _, _, _, _, _, _] := hM.call0 hN trivial; clear hN
    refine s_alloc [32] hE hM zero35 rfl rfl ?_; clear hE a; intro a b12 w18 hE hM'
    clear hM; have hM := hM'; clear hM'
    refine s_storeSeg 0 hE rfl rfl hM rfl sz35 ((bv_length _).trans (shaW_length _)) (bv_one _) rfl ((bv_length _).trans (by first | (simp; done) | (simp [*]; done) | (simp; omega))) rfl (by intro X h; cases h) ?_; intro w19 hM'; clear hM; have hM := hM'; clear hM'
    simp only [List.set_cons_zero, List.set_cons_succ] at hM
    refine q_nil ?_
    replace hE : Env a 62 [(2, _), (3, _), (4, _), (6, _), (7, _), (8, _), (9, _), (10, _), (11, _), (12, _), (15, _)] := hE.sel [2, 3, 4, 6, 7, 8, 9, 10, 11, 12, 15] rfl
    refine hK7 _ _ ?_
    refine wp_seq_j (fun a w' => ∃ (v55 : Value), Env a 62 [(2, vm), (3, .pointer (some ⟨b3, 0, none⟩)), (4, .pointer (some ⟨b4, 0, none⟩)), (6, .bool true), (7, .pointer (some ⟨b7, 0, none⟩)), (9, .pointer (some ⟨b9, 0, none⟩)), (11, .pointer (some ⟨b11, 0, none⟩)), (12, .pointer (some ⟨b12, 0, none⟩)), (15, .bool false)] ∧ Mem w [] w' [own v55 1 (q ++ (shaW (k ++ m))).length (bv (q ++ (shaW (k ++ m)))), blk b12 [bv (shaW (k ++ m))] [32] 35, own v34 1 (k ++ m).length (bv (k ++ m)), blk b11 [bv (pfS (pfA k) m)] [32] 35, blk b9 [pfL (pfA q)] [10] 30, blk b7 [pfL (pfA k)] [10] 30, own v14 1 1 [vm], blk b4 [bv q] [64] 22, blk b3 [bv k] [64] 22, rd vm 1 m.length cm (bv m), glb 0, tabQ]) ?_ ?_
    · refine wp_treeM hM (by kernel_rfl) (fun _ => True) (fun _ => True) (.re [(0, true), (1, true), (2, true), (3, true), (4, true), (5, true), (6, true), (7, true), (8, true), (9, true), (10, true), (11, true), (12, true), (13, true), (16, true), (18, true), (14, false), (15, false), (17, false), (19, false), (20, false), (21, true), (22, true), (23, true), (24, false), (25, true), (26, true)] (.fl 7 (.weak (.fl 9 (.or 14 (.re [(15, false), (17, false), (19, false), (20, false), (21, true), (22, true), (23, true), (24, false), (25, true), (26, true)] (.fl 0 (.fl 0 (.or 15 (.re [(17, false), (19, false), (20, false), (21, true), (22, true), (23, true), (24, false), (25, true), (26, true)] (.fl 0 (.fl 0 (.or 17 (.cut (.re [(19, false), (20, false), (21, true), (22, true), (23, true), (24, false), (25, true), (26, true)] (.fl 0 (.fl 0 (.weak (.or 19 (.cut (.re [(20, false), (21, true), (22, true), (23, true), (24, false), (25, true), (26, true)] (.weak (.leaf 7)))) (.stop))))))) (.stop))))) (.stop))))) (.or 15 (.re [(14, false), (17, false), (19, false), (20, false), (21, true), (22, true), (23, true), (24, false), (25, true), (26, true)] (.fl 0 (.fl 0 (.or 14 (.re [(17, false), (19, false), (20, false), (21, true), (22, true), (23, true), (24, false), (25, true), (26, true)] (.fl 0 (.fl 0 (.or 17 (.cut (.re [(19, false), (20, false), (21, true), (22, true), (23, true), (24, false), (25, true), (26, true)] (.fl 0 (.fl 0 (.weak (.or 19 (.cut (.re [(20, false), (21, true), (22, true), (23, true), (24, false), (25, true), (26, true)] (.weak (.leaf 7)))) (.stop))))))) (.stop))))) (.stop))))) (.stop))))))) [(0, true), (1, true), (2, true), (3, true), (4, true), (5, true), (6, true), (7, true), (8, true), (9, true), (10, true), (11, true), (12, true), (13, true), (16, true), (18, true), (14, false), (15, false), (17, false), (19, false), (20, false), (21, true), (22, true), (23, true), (24, false), (25, true), (26, true)] [(1, [(2, 1), (3, 2), (4, 2), (5, 2), (6, 2), (7, 6), (8, 6), (9, 8), (10, 9), (11, 10), (12, 11), (13, 11), (14, 11), (15, 11), (16, 11), (17, 16), (18, 11), (19, 17), (20, 11), (21, 11), (22, 11), (23, 20), (24, 23), (25, 24), (26, 1)]), (4, [(5, 4), (6, 5), (7, 6), (8, 6), (9, 8), (10, 9), (11, 10), (12, 11), (13, 11), (14, 11), (15, 11), (16, 11), (17, 16), (18, 11), (19, 17), (20, 11), (21, 11), (22, 11), (23, 20), (24, 23), (25, 24), (26, 4)]), (5, [(6, 5), (7, 6), (8, 6), (9, 8), (10, 9), (11, 10), (12, 11), (13, 11), (14, 11), (15, 11), (16, 11), (17, 16), (18, 11), (19, 17), (20, 11), (21, 11), (22, 11), (23, 20), (24, 23), (25, 24), (26, 5)]), (7, [(9, 7), (10, 9), (11, 10), (12, 11), (13, 11), (14, 11), (15, 11), (16, 11), (17, 16), (18, 11), (19, 17), (20, 11), (21, 11), (22, 11), (23, 20), (24, 23), (25, 24), (26, 7)]), (8, [(9, 8), (10, 9), (11, 10), (12, 11), (13, 11), (14, 11), (15, 11), (16, 11), (17, 16), (18, 11), (19, 17), (20, 11), (21, 11), (22, 11), (23, 20), (24, 23), (25, 24), (26, 8)]), (9, [(10, 9), (11, 10), (12, 11), (13, 11), (14, 11), (15, 11), (16, 11), (17, 16), (18, 11), (19, 17), (20, 11), (21, 11), (22, 11), (23, 20), (24, 23), (25, 24), (26, 9)]), (10, [(11, 10), (12, 11), (13, 11), (14, 11), (15, 11), (16, 11), (17, 16), (18, 11), (19, 17), (20, 11), (21, 11), (22, 11), (23, 20), (24, 23), (25, 24), (26, 10)]), (12, [(14, 12), (17, 14), (19, 17), (20, 19), (21, 20), (22, 21), (23, 20), (24, 23), (25, 24), (26, 12)]), (13, [(14, 13), (17, 14), (19, 17), (20, 19), (21, 20), (22, 21), (23, 20), (24, 23), (25, 24), (26, 13)]), (14, [(17, 14), (19, 17), (20, 19), (21, 14), (22, 21), (23, 20), (24, 23), (25, 24), (26, 14)]), (15, [(17, 15), (19, 17), (20, 19), (21, 20), (22, 21), (23, 20), (24, 23), (25, 24), (26, 15)]), (16, [(17, 16), (19, 17), (20, 19), (21, 20), (22, 21), (23, 20), (24, 23), (25, 24), (26, 16)]), (17, [(19, 17), (20, 19), (21, 20), (22, 21), (23, 20), (24, 23), (25, 24), (26, 17)]), (18, [(19, 18), (20, 19), (21, 20), (22, 21), (23, 20), (24, 23), (25, 24), (26, 18)]), (19, [(20, 19), (21, 20), (22, 21), (23, 20), (24, 23), (25, 24), (26, 19)]), (20, [(21, 20), (22, 21), (23, 20), (24, 23), (25, 24), (26, 20)]), (24, [(25, 24), (26, 24)])] (by kernel_rfl) ?_
      intro w20 hM' hww20; clear hM; have hM := hM'; clear hM'
      refine o_re ?_
      refine o_fl rfl ?_
      refine s_move hE rfl rfl ?_; clear hE a; intro a hE
      refine s_bin hE rfl rfl bin_eql rfl ?_; clear hE a; intro a hE
      refine s_move hE rfl rfl ?_; clear hE a; intro a hE
      replace hE := hE.cast 38 rfl (show _ = Value.bool true from (congrArg Value.bool (decide_eq_true (by rw [pfE_zero hx]; rfl))))
      refine g_yes hE rfl rfl ?_
      refine s_move hE rfl rfl ?_; clear hE a; intro a hE
      refine g_yes hE rfl rfl ?_
      refine s_bin hE rfl rfl bin_eql rfl ?_; clear hE a; intro a hE
      refine s_pickt hE rfl rfl rfl ?_; clear hE a; intro a hE
      refine s_move hE rfl rfl ?_; clear hE a; intro a hE
      refine q_nil (q_nx ?_)
      refine o_weak (fun b => b ≠ b11 ∧ b ≠ b12 ∧ b ≠ b9) (fun _ _ => trivial) ?_
      refine o_fl rfl ?_
      replace hE := hE.cast 42 rfl (show _ = Value.bool true from (congrArg Value.bool (decide_eq_true (by rw [pfE_zero hy]; rfl))))
      refine g_yes hE rfl rfl ?_
      refine s_loadN hE rfl (hM.get 2 rfl) row35 rfl (by intro X h; cases h; simp) rfl ?_; clear hE a; intro a hE
      refine g_yes hE rfl rfl ?_
      refine s_loadN hE rfl (hM.get 0 rfl) row35 rfl (by intro X h; cases h; simp) rfl ?_; clear hE a; intro a hE
      refine g_yes hE rfl rfl ?_
      refine s_bin hE rfl rfl (eqa35 (pfS_len ..) (shaW_length _)).1 rfl ?_; clear hE a; intro a hE
      refine s_pickt hE rfl rfl rfl ?_; clear hE a; intro a hE
      refine s_move hE rfl rfl ?_; clear hE a; intro a hE
      replace hE := hE.cast 47 rfl (show _ = Value.bool true from (congrArg Value.bool (decide_eq_true (pfS_A hx))))
      refine g_yes hE rfl rfl ?_
      refine s_loadN hE rfl (hM.get 3 rfl) row30 rfl (by intro X h; cases h; simp) rfl ?_; clear hE a; intro a hE
      refine g_yes hE rfl rfl ?_
      refine s_sliceArr (l := 0) (h := 32) (mx' := 32) hE rfl arr35 rfl rfl rfl (by simp) (by omega) (by omega) (by omega) rfl ?_; clear hE a; intro a hE
      replace hE := hE.cast 49 rfl (show _ = Value.slice (some ⟨b11, 0, none⟩) 32 32 from rfl)
      refine g_yes hE rfl rfl ?_
      refine s_sliceArr (l := 0) (h := 64) (mx' := 64) hE rfl arr22 rfl rfl rfl (by simp) (by omega) (by omega) (by omega) rfl ?_; clear hE a; intro a hE
      replace hE := hE.cast 52 rfl (show _ = Value.slice (some ⟨b4, 0, none⟩) 64 64 from rfl)
      refine g_yes hE rfl rfl ?_
      refine s_sliceArr (l := 0) (h := 32) (mx' := 32) hE rfl arr35 rfl rfl rfl (by simp) (by omega) (by omega) (by omega) rfl ?_; clear hE a; intro a hE
      replace hE := hE.cast 54 rfl (show _ = Value.slice (some ⟨b12, 0, none⟩) 32 32 from rfl)
      refine q_nil (q_nx ?_)
      refine o_or rfl ?_ ?_
      · refine g_yes hE rfl rfl ?_
        refine s_call hE rfl Tryd.call19 (psums_c (pfA q) _ (pfS (pfA k) m) _ _ (hM.get 9 rfl) (rd_of_arr (hM.get 2 rfl) (pfS_len ..)) (pfA_ok (by have hl_ : q.length = 64 := hl_q; first | omega | (simp; done) | (simp; omega))) (by have hl_ : (pfS (pfA k) m).length = 32 := (pfS_len ..); first | omega | (simp; done) | (simp; omega))) rfl ?_
        rintro e w21 ⟨rfl, hN⟩
        refine ⟨_, rfl, hN.sta0 _, ?_⟩; clear hE a; intro a hE
        replace hM : Mem _ _ w21 [_, _, _, _, _, _, _, _, _, _, _] := hM.call0 hN trivial; clear hN
        refine q_nil (q_nx ?_)
        refine o_re ?_
        refine o_fl rfl ?_
        refine q_nil (q_nx ?_)
        refine o_fl rfl ?_
        refine q_nil (q_nx ?_)
        refine o_or rfl ?_ ?_
        · refine g_yes hE rfl rfl ?_
          refine s_buildSlice (xs := []) ([]) hE hM sl23 rfl rfl rfl (by intro v hv; cases hv) rfl rfl rfl rfl ?_; clear hE a; intro a v51 w22 hE hM'
          clear hM; have hM := hM'; clear hM'
          replace hM := hM.ownEq (m' := ([] : List UInt8).length) (cs' := bv ([] : List UInt8)) rfl rfl
          refine q_nil (q_nx ?_)
          refine o_re ?_
          refine o_fl rfl ?_
          refine q_nil (q_nx ?_)
          refine o_fl rfl ?_
          refine q_nil (q_nx ?_)
          refine o_or rfl ?_ ?_
          · refine g_yes hE rfl rfl ?_
            refine s_append hE rfl rfl hM sl23 (Src.rd Tryd.underlying23 (rd_of_arr (hM.get 7 rfl) hl_q) (bv_one _)) (len47 (by have hl_x : ([] : List UInt8).length = 0 := (by first | (simp; done) | (simp [*]; done) | (simp; omega)); have hl_y : q.length = 64 := hl_q; first | omega | (simp; done) | (simp; omega))) (by have hl_x : ([] : List UInt8).length = 0 := (by first | (simp; done) | (simp [*]; done) | (simp; omega)); have hl_y : q.length = 64 := hl_q; first | omega | (simp; done) | (simp; omega)) (by intro X h; cases h; intro b hb; exact ⟨fun e => ((apart_of_get hM.apart (i := 0) (j := 3) rfl rfl (by decide)).1 b hb).1 (by rw [e]; exact .head _), fun e => ((apart_of_get hM.apart (i := 0) (j := 1) rfl rfl (by decide)).1 b hb).1 (by rw [e]; exact .head _), fun e => ((apart_of_get hM.apart (i := 0) (j := 4) rfl rfl (by decide)).1 b hb).1 (by rw [e]; exact .head _)⟩) rfl ?_; clear hE a; intro a v53 w23 hE hM'; clear hM; have hM := hM'; clear hM'
            replace hM := Mem.ownNil (q := q) hM rfl (by first | rfl | (simp; done))
            refine q_nil (q_nx ?_)
            refine o_cut (fun _ => True) ?_
            refine o_re ?_
            refine o_fl rfl ?_
            refine q_nil (q_nx ?_)
            refine o_fl rfl ?_
            refine q_nil (q_nx ?_)
            refine o_weak (fun b => b ∈ valBlocks v53) (fun _ _ => trivial) ?_
            refine o_or rfl ?_ ?_
            · refine g_yes hE rfl rfl ?_
              refine s_append hE rfl rfl hM sl23 (Src.rd Tryd.underlying23 (rd_of_arr (hM.get 1 rfl) (shaW_length _)) (bv_one _)) (len47 (by have hl_x : q.length = 64 := hl_q; have hl_y : (shaW (k ++ m)).length = 32 := (shaW_length _); first | omega | (simp; done) | (simp; omega))) (by have hl_x : q.length = 64 := hl_q; have hl_y : (shaW (k ++ m)).length = 32 := (shaW_length _); first | omega | (simp; done) | (simp; omega)) (by intro X h; cases h; exact fun _ hb => hb) rfl ?_; clear hE a; intro a v55 w24 hE hM'; clear hM; have hM := hM'; clear hM'
              replace hM := Mem.ownApp (p := q) (q := shaW (k ++ m)) hM (by first | rfl | (simp; done))
              refine q_nil (q_nx ?_)
              refine o_cut (fun _ => True) ?_
              refine o_re ?_
              refine o_weak (fun _ => False) (fun _ _ => trivial) ?_
              refine o_leaf rfl rfl ?_
              refine g_yes hE rfl rfl ?_
              obtain ⟨cq5, hq5⟩ := own_rd (hM.get 0 rfl)
              refine s_call hE rfl Tryd.call20 (sha_c _ (q ++ (shaW (k ++ m))) _ _ (hM.get 10 rfl) hq5 (by have hl_ : (q ++ (shaW (k ++ m))).length = 64 + 32 := (by have hl_p : q.length = 64 := hl_q; have hl_q : (shaW (k ++ m)).length = 32 := (shaW_length _); rw [List.length_append]; omega); first | omega | (simp; done) | (simp; omega))) rfl ?_
              rintro e w25 ⟨rfl, hN⟩
              refine ⟨_, rfl, hN.sta0 _, ?_⟩; clear hE a; intro a hE
              replace hM : Mem _ _ w25 [_, _, _, _, _, _, _, _, _, _, _, _] := hM.call0 hN trivial; clear hN
              refine g_yes hE rfl rfl ?_
              refine s_bin hE rfl rfl (eqa35 (pfS_len ..) (shaW_length _)).1 rfl ?_; clear hE a; intro a hE
              refine s_pickt hE rfl rfl rfl ?_; clear hE a; intro a hE
              refine s_move hE rfl rfl ?_; clear hE a; intro a hE
              replace hE := hE.cast 59 rfl (show _ = Value.bool true from (congrArg Value.bool (decide_eq_true (by rw [pfS_A hy, pfS_A hx]))))
              refine g_yes hE rfl rfl ?_
              refine s_call hE rfl Tryd.call17 (awake3_c  _ (hM.get 10 rfl) (hM.get 11 rfl)) rfl ?_
              rintro e w26 ⟨rfl, hN⟩
              refine ⟨_, rfl, hN.sta0 _, ?_⟩; clear hE a; intro a hE
              replace hM : Mem _ _ w26 [_, _, _, _, _, _, _, _, _, _, _, _] := hM.call0 hN trivial; clear hN
              refine s_pickt hE rfl rfl rfl ?_; clear hE a; intro a hE
              refine s_assign hE rfl rfl ?_; clear hE a; intro a hE
              refine q_nil (q_ph (q_nil ?_))
              replace hE : Env a 62 [(2, _), (3, _), (4, _), (6, _), (7, _), (9, _), (11, _), (12, _), (15, _)] := hE.sel [2, 3, 4, 6, 7, 9, 11, 12, 15] rfl
              replace hM : Mem _ _ w26 [_, _, _, _, _, _, _, _, _, _, _, _] := hM.pick [0, 1, 2, 3, 4, 5, 6, 7, 8, 9, 10, 11] rfl
              refine q_then_n ⟨_, hE.sel [2, 3, 4, 6, 7, 9, 11, 12, 15] rfl, hM⟩
            trivial
          trivial
        trivial
      refine o_or rfl ?_ ?_
      · refine g_yes hE rfl rfl ?_
        refine s_buildSlice (xs := []) ([]) hE hM sl23 rfl rfl rfl (by intro v hv; cases hv) rfl rfl rfl rfl ?_; clear hE a; intro a v51 w21 hE hM'
        clear hM; have hM := hM'; clear hM'
        replace hM := hM.ownEq (m' := ([] : List UInt8).length) (cs' := bv ([] : List UInt8)) rfl rfl
        refine q_nil (q_nx ?_)
        refine o_re ?_
        refine o_fl rfl ?_
        refine q_nil (q_nx ?_)
        refine o_fl rfl ?_
        refine q_nil (q_nx ?_)
        refine o_or rfl ?_ ?_
        · refine g_yes hE rfl rfl ?_
          refine s_call hE rfl Tryd.call19 (psums_c (pfA q) _ (pfS (pfA k) m) _ _ (hM.get 10 rfl) (rd_of_arr (hM.get 3 rfl) (pfS_len ..)) (pfA_ok (by have hl_ : q.length = 64 := hl_q; first | omega | (simp; done) | (simp; omega))) (by have hl_ : (pfS (pfA k) m).length = 32 := (pfS_len ..); first | omega | (simp; done) | (simp; omega))) rfl ?_
          rintro e w22 ⟨rfl, hN⟩
          refine ⟨_, rfl, hN.sta0 _, ?_⟩; clear hE a; intro a hE
          replace hM : Mem _ _ w22 [_, _, _, _, _, _, _, _, _, _, _, _] := hM.call0 hN trivial; clear hN
          refine q_nil (q_nx ?_)
          refine o_re ?_
          refine o_fl rfl ?_
          refine q_nil (q_nx ?_)
          refine o_fl rfl ?_
          refine q_nil (q_nx ?_)
          refine o_or rfl ?_ ?_
          · refine g_yes hE rfl rfl ?_
            refine s_append hE rfl rfl hM sl23 (Src.rd Tryd.underlying23 (rd_of_arr (hM.get 7 rfl) hl_q) (bv_one _)) (len47 (by have hl_x : ([] : List UInt8).length = 0 := (by first | (simp; done) | (simp [*]; done) | (simp; omega)); have hl_y : q.length = 64 := hl_q; first | omega | (simp; done) | (simp; omega))) (by have hl_x : ([] : List UInt8).length = 0 := (by first | (simp; done) | (simp [*]; done) | (simp; omega)); have hl_y : q.length = 64 := hl_q; first | omega | (simp; done) | (simp; omega)) (by intro X h; cases h; intro b hb; exact ⟨fun e => ((apart_of_get hM.apart (i := 0) (j := 3) rfl rfl (by decide)).1 b hb).1 (by rw [e]; exact .head _), fun e => ((apart_of_get hM.apart (i := 0) (j := 1) rfl rfl (by decide)).1 b hb).1 (by rw [e]; exact .head _), fun e => ((apart_of_get hM.apart (i := 0) (j := 4) rfl rfl (by decide)).1 b hb).1 (by rw [e]; exact .head _)⟩) rfl ?_; clear hE a; intro a v53 w23 hE hM'; clear hM; have hM := hM'; clear hM'
            replace hM := Mem.ownNil (q := q) hM rfl (by first | rfl | (simp; done))
            refine q_nil (q_nx ?_)
            refine o_cut (fun _ => True) ?_
            refine o_re ?_
            refine o_fl rfl ?_
            refine q_nil (q_nx ?_)
            refine o_fl rfl ?_
            refine q_nil (q_nx ?_)
            refine o_weak (fun b => b ∈ valBlocks v53) (fun _ _ => trivial) ?_
            refine o_or rfl ?_ ?_
            · refine g_yes hE rfl rfl ?_
              refine s_append hE rfl rfl hM sl23 (Src.rd Tryd.underlying23 (rd_of_arr (hM.get 1 rfl) (shaW_length _)) (bv_one _)) (len47 (by have hl_x : q.length = 64 := hl_q; have hl_y : (shaW (k ++ m)).length = 32 := (shaW_length _); first | omega | (simp; done) | (simp; omega))) (by have hl_x : q.length = 64 := hl_q; have hl_y : (shaW (k ++ m)).length = 32 := (shaW_length _); first | omega | (simp; done) | (simp; omega)) (by intro X h; cases h; exact fun _ hb => hb) rfl ?_; clear hE a; intro a v55 w24 hE hM'; clear hM; have hM := hM'; clear hM'
              replace hM := Mem.ownApp (p := q) (q := shaW (k ++ m)) hM (by first | rfl | (simp; done))
              refine q_nil (q_nx ?_)
              refine o_cut (fun _ => True) ?_
              refine o_re ?_
              refine o_weak (fun _ => False) (fun _ _ => trivial) ?_
              refine o_leaf rfl rfl ?_
              refine g_yes hE rfl rfl ?_
              obtain ⟨cq6, hq6⟩ := own_rd (hM.get 0 rfl)
              refine s_call hE rfl Tryd.call20 (sha_c _ (q ++ (shaW (k ++ m))) _ _ (hM.get 10 rfl) hq6 (by have hl_ : (q ++ (shaW (k ++ m))).length = 64 + 32 := (by have hl_p : q.length = 64 := hl_q; have hl_q : (shaW (k ++ m)).length = 32 := (shaW_length _); rw [List.length_append]; omega); first | omega | (simp; done) | (simp; omega))) rfl ?_
              rintro e w25 ⟨rfl, hN⟩
              refine ⟨_, rfl, hN.sta0 _, ?_⟩; clear hE a; intro a hE
              replace hM : Mem _ _ w25 [_, _, _, _, _, _, _, _, _, _, _, _] := hM.call0 hN trivial; clear hN
              refine g_yes hE rfl rfl ?_
              refine s_bin hE rfl rfl (eqa35 (pfS_len ..) (shaW_length _)).1 rfl ?_; clear hE a; intro a hE
              refine s_pickt hE rfl rfl rfl ?_; clear hE a; intro a hE
              refine s_move hE rfl rfl ?_; clear hE a; intro a hE
              replace hE := hE.cast 59 rfl (show _ = Value.bool true from (congrArg Value.bool (decide_eq_true (by rw [pfS_A hy, pfS_A hx]))))
              refine g_yes hE rfl rfl ?_
              refine s_call hE rfl Tryd.call17 (awake3_c  _ (hM.get 10 rfl) (hM.get 11 rfl)) rfl ?_
              rintro e w26 ⟨rfl, hN⟩
              refine ⟨_, rfl, hN.sta0 _, ?_⟩; clear hE a; intro a hE
              replace hM : Mem _ _ w26 [_, _, _, _, _, _, _, _, _, _, _, _] := hM.call0 hN trivial; clear hN
              refine s_pickt hE rfl rfl rfl ?_; clear hE a; intro a hE
              refine s_assign hE rfl rfl ?_; clear hE a; intro a hE
              refine q_nil (q_ph (q_nil ?_))
              replace hE : Env a 62 [(2, _), (3, _), (4, _), (6, _), (7, _), (9, _), (11, _), (12, _), (15, _)] := hE.sel [2, 3, 4, 6, 7, 9, 11, 12, 15] rfl
              replace hM : Mem _ _ w26 [_, _, _, _, _, _, _, _, _, _, _, _] := hM.pick [0, 1, 2, 3, 4, 5, 6, 7, 8, 9, 10, 11] rfl
              refine q_then_n ⟨_, hE.sel [2, 3, 4, 6, 7, 9, 11, 12, 15] rfl, hM⟩
            trivial
          trivial
        trivial
      trivial
    clear hE hM a; rintro a w27 ⟨v55, hE, hM⟩
    refine wp_ret ?_
    refine f_ret1 hE rfl rfl ?_
    exact ⟨(by first | rfl | (simp; done)), hM.pick [] rfl⟩
set_option maxRecDepth 100000 in
theorem shaTwoBlocks_lifted (os : Os) (started : os.Started) (H : Type) (enc : TypeId × Value → H) :
    ReturnsInHanded {} Tryd.checked os 3 .any (fun w args => (Rows.shaTwoBlocksSpec.pre enc Tryd.prog Tryd.f3 [] false w args ∧ laidMetH Tryd.prog Rows.shaTwoBlocksRow.laid w) ∧ sizedMet enc Tryd.prog Tryd.f3 (OpenSpec.ofChange Rows.shaTwoBlocksSpec) false w args) (Rows.shaTwoBlocksSpec.post enc Tryd.prog Tryd.f3 false true false false) := by
  refine law_liftedL (C := Tryd.checked) (fn := Tryd.f3) (l := Rows.shaTwoBlocksRow.laid) (by kernel_rfl) started (by kernel_rfl) Tryd.func3 rfl (fun ds hl => ?_) rfl Tryd.underlying4 (by kernel_rfl) (of_decide_eq_true (by kernel_rfl)) (by kernel_rfl)
    (ChangeSpec.witness_shaped (enc := enc) (C := Tryd.checked) (os := os) (X := fun w _ => laidMetH Tryd.prog Rows.shaTwoBlocksRow.laid w) false (World.laidAll Tryd.prog os Rows.shaTwoBlocksRow.laid) #[.agg (bv (List.replicate 64 0)).toArray, .agg (bv (List.replicate 64 0)).toArray, .slice none 0 0] 8 (World.laidAll_os _ _ _) (World.shaped_of_ZipB (by kernel_rfl) (by kernel_rfl)) (by kernel_rfl) (by kernel_rfl) (by kernel_rfl) (by rw [MakeChecks.laidMetH_plain _ _ _ (by kernel_rfl)]; exact laidMet_laidAll _ (by kernel_rfl) (by kernel_rfl))) ?_
  · rw [Tryd.params3] at hl
    match ds, hl with
    | [_, _, _], _ => rfl
  · intro W base args ds ps hval hA hw hL
    have hG := glb_of_laid (P := Tryd.prog) (g := 0) (t := 91) (e := 26) (by kernel_rfl) (by kernel_rfl) Tryd.underlying91 Tryd.underlying26 (by kernel_rfl) (by kernel_rfl) (by kernel_rfl) (show laidMet Tryd.prog (_ :: _) W from (laidMet_tail (laidMet_tail (laidMet_tail hL))))
    have hQ : tabQ.holds W := cells_of_laid (P := Tryd.prog) (g := 5) (t := 22) (e := 5) (n := 64) (by kernel_rfl) (by kernel_rfl) Tryd.underlying22 Tryd.underlying5 (by kernel_rfl) (by kernel_rfl) (by kernel_rfl) (show laidMet Tryd.prog (_ :: _) W from (laidMet_tail hL))
    rw [Tryd.params3] at hA hval hw
    obtain ⟨v0, vs0, d0, ds0, p0, q0, hargs, rfl, rfl, h0, r0⟩ := trodAll_cons hA
    obtain ⟨v1, vs1, d1, ds1, p1, q1, rfl, rfl, rfl, h1, r1⟩ := trodAll_cons r0
    obtain ⟨v2, vs2, d2, ds2, p2, q2, rfl, rfl, rfl, h2, r2⟩ := trodAll_cons r1
    obtain ⟨rfl, rfl, rfl⟩ := trodAll_nil r2
    obtain rfl : args = #[v0, v1, v2] := by cases args; simp_all
    obtain ⟨a0, rfl, ha0⟩ := arg_arr8 Tryd.underlying22 Tryd.underlying5 (by kernel_rfl) (by kernel_rfl) (hval 0 22 v0 rfl rfl) h0 (fun m hm => hw m (by simp only [DataW.weightsEach, List.mem_append]; exact .inl hm))
    obtain ⟨a1, rfl, ha1⟩ := arg_arr8 Tryd.underlying22 Tryd.underlying5 (by kernel_rfl) (by kernel_rfl) (hval 1 22 v1 rfl rfl) h1 (fun m hm => hw m (by simp only [DataW.weightsEach, List.mem_append]; exact .inr (.inl hm)))
    obtain ⟨bs2, c2, hr2, hb2⟩ := arg_bytes Tryd.underlying23 Tryd.underlying5 (by kernel_rfl) (by kernel_rfl) (hval 2 23 v2 rfl rfl) h2 (fun m hm => hw m (by simp only [DataW.weightsEach, List.mem_append]; exact .inr (.inr (.inl hm))))
    exact shaTwoBlocks_c a0 a1 v2 bs2 c2 W hG hQ ha0 ha1 hr2

/-- The row's statement. -/
theorem shaTwoBlocks_row : Rows.ShaTwoBlocksSaid :=
  OpenClaim.holds_of_wide 3 Tryd.f3 rfl rfl rfl rfl rfl rfl rfl ⟨rfl, rfl, rfl, rfl, rfl⟩ rfl rfl rfl rfl rfl (by kernel_rfl) Tryd.func3 (by kernel_rfl)
    (of_decide_eq_true (by kernel_rfl)) (by unfold Func.isWrapper; first | (rw [if_pos (by decide +kernel)]; kernel_rfl) | (rw [if_neg (by decide +kernel)]; exact ⟨rfl, rfl⟩))
    (fun os started H enc _ => shaTwoBlocks_lifted os started H enc)

/-- The statement: the row, its listed variable tied to the program's text. -/
theorem shaTwoBlocks_holds : Rows.ShaTwoBlocksCardSaid :=
  Claim7.holds_tied_plain_at .later [] [.data, .data, .data, .data] true (true, "91cb5901f707df670105d5a20baa4ed90d479b7ccd219857a5a06152428abcb6") true
    shaTwoBlocks_row (fun _ h => by cases h) (by kernel_rfl) (fun _ h => by cases h) shaTwoBlocks_row_tie rfl ⟨rfl, rfl⟩ (by kernel_rfl) rfl
    (fun f fn hf hfn => by
      obtain rfl : f = 3 := Option.some.inj ((show Tryd.prog.funcNamed "casemate/casematelaw03.ShaTwoBlocks" = some 3 by kernel_rfl).symm.trans hf) |>.symm
      obtain rfl : fn = Tryd.f3 := (Option.some.inj (Tryd.func3.symm.trans hfn)).symm
      exact ⟨by kernel_rfl, fun j t ht => by
        rw [Tryd.params3] at ht
        have h : t ∈ [22, 22, 23] := by
          rcases j with _ | _ | _ | j
          · simp at ht; simp [ht]
          · simp at ht; simp [ht]
          · simp at ht; simp [ht]
          · simp at ht
        simp only [List.mem_cons, List.not_mem_nil, or_false] at h
        rcases h with rfl | rfl | rfl
        · exact (show Tryd.prog.wantsStandIn 22 = false by kernel_rfl)
        · exact (show Tryd.prog.wantsStandIn 22 = false by kernel_rfl)
        · exact (show Tryd.prog.wantsStandIn 23 = false by kernel_rfl)⟩)
    (by kernel_rfl)
#print axioms shaTwoBlocks_holds
end Go.Proofs.YtbjdbiljkkfklaaDoor
