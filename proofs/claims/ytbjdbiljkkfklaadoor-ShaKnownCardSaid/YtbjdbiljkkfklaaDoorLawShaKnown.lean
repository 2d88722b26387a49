/- ShaKnown of casematelaw03 returns true. No condition. -/
import Derived.Test.YtbjdbiljkkfklaaDoorLx
import Derived.Test.YtbjdbiljkkfklaaDoorTie
import Derived.Test.YtbjdbiljkkfklaaDoorCards
set_option linter.unusedSimpArgs false
set_option linter.unusedVariables false
namespace Go.Proofs.YtbjdbiljkkfklaaDoor
open Go Go.Kx
open Go.ChangeShapes Go.WideShapes Go.ChangeAt Go.RowKit

theorem nilT : hexL (shaW []) = [101, 51, 98, 48, 99, 52, 52, 50, 57, 56, 102, 99, 49, 99, 49, 52, 57, 97, 102, 98, 102, 52, 99, 56, 57, 57, 54, 102, 98, 57, 50, 52, 50, 55, 97, 101, 52, 49, 101, 52, 54, 52, 57, 98, 57, 51, 52, 99, 97, 52, 57, 53, 57, 57, 49, 98, 55, 56, 53, 50, 98, 56, 53, 53] := by decide +kernel
set_option maxRecDepth 20000 in
set_option maxHeartbeats 4000000 in
theorem shaKnown_c  (w : World) (hG : (glb 0).holds w) (hQ : tabQ.holds w) (hS : errS.holds w) : Calls Tryd.prog 8 #[] w fun e w' => e = .returned (.bool true) ∧ Mem w [] w' [] := by
  have hM : Mem w [] w [glb 0, tabQ, errS] := Mem.startR w (fun g hg => by
    simp only [List.mem_cons, List.not_mem_nil, or_false] at hg
    rcases hg with rfl | rfl | rfl
    · exact ⟨hG, rfl⟩
    · exact ⟨hQ, rfl⟩
    · exact ⟨hS, rfl⟩)
  refine f_enter 131 Tryd.func8 rfl rfl rfl ?_
  intro a hE
  replace hE : Env a 131 [] := hE
  refine wp_seq_k (fun K1 hK1 => ?_)
  refine wp_plain [true] rfl rfl ?_
  refine s_assign hE rfl rfl ?_; clear hE a; intro a hE
  refine q_nil ?_
  refine hK1 _ _ ?_
  refine wp_seq_k (fun K2 hK2 => ?_)
  refine wp_seq_k (fun K3 hK3 => ?_)
  refine wp_plain [false, true, true, false, true, true] rfl rfl ?_
  refine s_call hE rfl Tryd.call17 (awake3_c  _ (hM.get 0 rfl) (hM.get 1 rfl)) rfl ?_
  rintro e w1 ⟨rfl, hN⟩
  refine ⟨_, rfl, trivial, ?_⟩; clear hE a; intro a hE
  replace hM : Mem _ _ w1 [_, _, _] := hM.call0 hN trivial; clear hN
  refine s_not hE rfl rfl ?_; clear hE a; intro a hE
  replace hE := hE.cast 21 rfl (show _ = Value.bool false from rfl)
  refine s_move hE rfl rfl ?_; clear hE a; intro a hE
  refine g_yes hE rfl rfl ?_
  refine s_call hE rfl Tryd.call29 (spelt_c ([] : List UInt8) _ (hM.get 0 rfl) (hM.get 1 rfl) (by have hl_0 : ([] : List UInt8).length = 0 := (by first | (simp; done) | (simp [*]; done) | (simp; omega)); first | omega | assumption | (simp; done) | (simp; omega) | decide)) rfl ?_
  rintro e w2 ⟨rfl, hN⟩
  refine ⟨_, rfl, trivial, ?_⟩; clear hE a; intro a hE
  replace hM : Mem _ _ w2 [_, _, _] := hM.call0 hN trivial; clear hN
  refine g_yes hE rfl rfl ?_
  refine s_bin hE rfl rfl bins_str.2 rfl ?_; clear hE a; intro a hE
  refine s_pickf hE rfl rfl rfl ?_; clear hE a; intro a hE
  refine q_nil ?_
  replace hE : Env a 131 [(0, _), (25, _)] := hE.sel [0, 25] rfl
  refine hK3 _ _ ?_
  replace hE := hE.cast 25 rfl (show _ = Value.bool false from (congrArg Value.bool (congrArg not (decide_eq_true nilT))))
  refine wp_cond_false (hE.eval rfl) ?_
  refine wp_skip ?_
  refine hK2 _ _ ?_
  refine wp_seq_k (fun K4 hK4 => ?_)
  refine wp_plain [false, false, true, true, true, false, false, true] rfl rfl ?_
  refine s_makeSlice (m := 63) (zc := [bV 0]) hE rfl rfl hM sl23 ⟨.int .u8 0, by kernel_rfl, rfl⟩ rfl rfl (by omega) (by omega) (by decide) rfl ?_; clear hE a; intro a v27 w3 hE hM'; clear hM; have hM := hM'; clear hM'
  replace hM := hM.ownEq (m' := (List.replicate 63 (0 : UInt8)).length) (cs' := bv (List.replicate 63 (0 : UInt8))) (by simp) (by simp [bv])
  obtain ⟨cq1, hq1⟩ := own_rd (hM.get 0 rfl)
  refine s_call hE rfl Tryd.call18 (pahead_c _ (List.replicate 63 (0 : UInt8)) _ _ (hM.get 1 rfl) hq1 (by have hl_ : (List.replicate 63 (0 : UInt8)).length = 63 := (by first | (simp; done) | (simp [*]; done) | (simp; omega)); first | omega | (simp; done) | (simp; omega))) rfl ?_
  rintro e w4 ⟨rfl, hN⟩
  refine ⟨_, rfl, trivial, ?_⟩; clear hE a; intro a hE
  replace hM : Mem _ _ w4 [_, _, _, _] := hM.call0 hN trivial; clear hN
  refine s_move hE rfl rfl ?_; clear hE a; intro a hE
  refine s_extract hE rfl rfl rfl ?_; clear hE a; intro a hE
  refine s_extract hE rfl rfl rfl ?_; clear hE a; intro a hE
  refine s_alloc [8, 1, 1] hE hM zero30 rfl rfl ?_; clear hE a; intro a b1 w5 hE hM'
  clear hM; have hM := hM'; clear hM'
  replace hM := hM.resplit (ss' := [zeroP]) (ns' := [10]) (by simp [zeroP]) (by simp [zeroP])
  refine s_storeSeg 0 (vs := pfL (pfA (List.replicate 63 (0 : UInt8)))) hE rfl rfl hM rfl sz30 (pfL_length (pfA_ok (by have hl_ : (List.replicate 63 (0 : UInt8)).length = 63 := (by first | (simp; done) | (simp [*]; done) | (simp; omega)); first | omega | (simp; done) | (simp; omega)))) (pfL_one _) rfl (by simp [zeroP]) rfl (by intro X h; cases h) ?_; intro w6 hM'; clear hM; have hM := hM'; clear hM'
  simp only [List.set_cons_zero] at hM
  refine s_assign hE rfl rfl ?_; clear hE a; intro a hE
  refine q_nil ?_
  replace hE : Env a 131 [(0, _), (2, _), (25, _)] := hE.sel [0, 2, 25] rfl
  refine hK4 _ _ ?_
  refine wp_seq_k (fun K5 hK5 => ?_)
  refine wp_plain [false, false, true, true, true, false, false, true] rfl rfl ?_
  refine s_makeSlice (m := 64) (zc := [bV 0]) hE rfl rfl hM sl23 ⟨.int .u8 0, by kernel_rfl, rfl⟩ rfl rfl (by omega) (by omega) (by decide) rfl ?_; clear hE a; intro a v32 w7 hE hM'; clear hM; have hM := hM'; clear hM'
  replace hM := hM.ownEq (m' := (List.replicate 64 (0 : UInt8)).length) (cs' := bv (List.replicate 64 (0 : UInt8))) (by simp) (by simp [bv])
  obtain ⟨cq2, hq2⟩ := own_rd (hM.get 0 rfl)
  refine s_call hE rfl Tryd.call18 (pahead_c _ (List.replicate 64 (0 : UInt8)) _ _ (hM.get 3 rfl) hq2 (by have hl_ : (List.replicate 64 (0 : UInt8)).length = 64 := (by first | (simp; done) | (simp [*]; done) | (simp; omega)); first | omega | (simp; done) | (simp; omega))) rfl ?_
  rintro e w8 ⟨rfl, hN⟩
  refine ⟨_, rfl, trivial, ?_⟩; clear hE a; intro a hE
  replace hM : Mem _ _ w8 [_, _, _, _, _, _] := hM.call0 hN trivial; clear hN
  refine s_move hE rfl rfl ?_; clear hE a; intro a hE
  refine s_extract hE rfl rfl rfl ?_; clear hE a; intro a hE
  refine s_extract hE rfl rfl rfl ?_; clear hE a; intro a hE
  refine s_alloc [8, 1, 1] hE hM zero30 rfl rfl ?_; clear hE a; intro a b3 w9 hE hM'
  clear hM; have hM := hM'; clear hM'
  replace hM := hM.resplit (ss' := [zeroP]) (ns' := [10]) (by simp [zeroP]) (by simp [zeroP])
  refine s_storeSeg 0 (vs := pfL (pfA (List.replicate 64 (0 : UInt8)))) hE rfl rfl hM rfl sz30 (pfL_length (pfA_ok (by have hl_ : (List.replicate 64 (0 : UInt8)).length = 64 := (by first | (simp; done) | (simp [*]; done) | (simp; omega)); first | omega | (simp; done) | (simp; omega)))) (pfL_one _) rfl (by simp [zeroP]) rfl (by intro X h; cases h) ?_; intro w10 hM'; clear hM; have hM := hM'; clear hM'
  simp only [List.set_cons_zero] at hM
  refine s_assign hE rfl rfl ?_; clear hE a; intro a hE
  refine q_nil ?_
  replace hE : Env a 131 [(0, _), (2, _), (3, _), (4, _), (25, _)] := hE.sel [0, 2, 3, 4, 25] rfl
  refine hK5 _ _ ?_
  refine wp_seq_j (fun a w' => ∃ (b5 : Nat), ∃ (v38 : Value), Env a 131 [(0, .bool false), (2, .int .i64 ((pfE (List.replicate 63 (0 : UInt8)) : Nat) : Int)), (3, .pointer (some ⟨b3, 0, none⟩)), (4, .int .i64 ((pfE (List.replicate 64 (0 : UInt8)) : Nat) : Int)), (5, .pointer (some ⟨b5, 0, none⟩)), (6, .int .i64 ((pfF (pfA (List.replicate 64 (0 : UInt8))) (List.replicate 64 (0 : UInt8)) : Nat) : Int)), (25, .bool false)] ∧ Mem w [] w' [blk b5 [pfL (pfM (pfA (List.replicate 64 (0 : UInt8))) (List.replicate 64 (0 : UInt8)))] [10] 30, own v38 1 (List.replicate 64 (0 : UInt8)).length (bv (List.replicate 64 (0 : UInt8))), blk b3 [pfL (pfA (List.replicate 64 (0 : UInt8)))] [10] 30, own v32 1 (List.replicate 64 (0 : UInt8)).length (bv (List.replicate 64 (0 : UInt8))), blk b1 [pfL (pfA (List.replicate 63 (0 : UInt8)))] [10] 30, own v27 1 (List.replicate 63 (0 : UInt8)).length (bv (List.replicate 63 (0 : UInt8))), glb 0, tabQ, errS]) ?_ ?_
  · refine wp_treeM hM (by kernel_rfl) (fun _ => True) (fun _ => True) (.re [(0, true), (1, false), (2, false), (3, true), (4, true), (5, true), (6, false), (7, false), (8, true)] (.fl 0 (.weak (.fl 1 (.or 1 (.re [(2, false), (3, true), (4, true), (5, true), (6, false), (7, false), (8, true)] (.fl 0 (.fl 0 (.or 2 (.re [(3, true), (4, true), (5, true), (6, false), (7, false), (8, true)] (.fl 3 (.fl 0 (.or 6 (.re [(7, false), (8, true)] (.fl 0 (.fl 0 (.or 7 (.cut (.re [(8, true)] (.weak (.leaf 1)))) (.stop))))) (.stop))))) (.or 6 (.cut (.re [(2, false), (3, true), (4, true), (5, true), (7, false), (8, true)] (.fl 0 (.fl 0 (.or 2 (.re [(3, true), (4, true), (5, true), (7, false), (8, true)] (.fl 3 (.fl 0 (.weak (.or 7 (.cut (.re [(8, true)] (.weak (.leaf 1)))) (.stop)))))) (.stop)))))) (.stop)))))) (.or 6 (.re [(1, false), (2, false), (3, true), (4, true), (5, true), (7, false), (8, true)] (.fl 0 (.fl 0 (.or 1 (.cut (.re [(2, false), (3, true), (4, true), (5, true), (7, false), (8, true)] (.fl 0 (.fl 0 (.or 2 (.re [(3, true), (4, true), (5, true), (7, false), (8, true)] (.fl 3 (.fl 0 (.weak (.or 7 (.cut (.re [(8, true)] (.weak (.leaf 1)))) (.stop)))))) (.stop)))))) (.stop))))) (.stop))))))) [(0, true), (1, false), (2, false), (3, true), (4, true), (5, true), (6, false), (7, false), (8, true)] [(0, [(2, 0), (3, 2), (4, 3), (5, 3), (7, 0), (8, 0)]), (1, [(2, 1), (3, 2), (4, 3), (5, 3), (7, 1), (8, 1)]), (2, [(3, 2), (4, 3), (5, 3), (7, 2), (8, 2)]), (4, [(7, 4), (8, 4)]), (5, [(8, 5)]), (6, [(7, 6), (8, 6)]), (7, [(8, 7)])] (by kernel_rfl) ?_
    intro w11 hM' hww11; clear hM; have hM := hM'; clear hM'
    refine o_re ?_
    refine o_fl rfl ?_
    refine q_nil (q_nx ?_)
    refine o_weak (fun b => b ≠ b3) (fun _ _ => trivial) ?_
    refine o_fl rfl ?_
    refine s_loadN hE rfl (hM.get 0 rfl) row30 rfl (by intro X h; cases h; simp) rfl ?_; clear hE a; intro a hE
    refine q_nil (q_nx ?_)
    refine o_or rfl ?_ ?_
    · refine s_makeSlice (m := 64) (zc := [bV 0]) hE rfl rfl hM sl23 ⟨.int .u8 0, by kernel_rfl, rfl⟩ rfl rfl (by omega) (by omega) (by decide) rfl ?_; clear hE a; intro a v38 w12 hE hM'; clear hM; have hM := hM'; clear hM'
      replace hM := hM.ownEq (m' := (List.replicate 64 (0 : UInt8)).length) (cs' := bv (List.replicate 64 (0 : UInt8))) (by simp) (by simp [bv])
      refine q_nil (q_nx ?_)
      refine o_re ?_
      refine o_fl rfl ?_
      refine q_nil (q_nx ?_)
      refine o_fl rfl ?_
      refine q_nil (q_nx ?_)
      refine o_or rfl ?_ ?_
      · obtain ⟨cq6, hq6⟩ := own_rd (hM.get 0 rfl)
        refine s_call hE rfl Tryd.call22 (pmore_c (pfA (List.replicate 64 (0 : UInt8))) _ (List.replicate 64 (0 : UInt8)) _ _ (hM.get 5 rfl) hq6 (pfA_ok (by have hl_ : (List.replicate 64 (0 : UInt8)).length = 64 := (by first | (simp; done) | (simp [*]; done) | (simp; omega)); first | omega | (simp; done) | (simp; omega))) (by have hl_ : (List.replicate 64 (0 : UInt8)).length = 64 := (by first | (simp; done) | (simp [*]; done) | (simp; omega)); first | omega | (simp; done) | (simp; omega))) rfl ?_
        rintro e w13 ⟨rfl, hN⟩
        refine ⟨_, rfl, hN.sta0 _, ?_⟩; clear hE a; intro a hE
        replace hM : Mem _ _ w13 [_, _, _, _, _, _, _, _] := hM.call0 hN trivial; clear hN
        refine q_nil (q_nx ?_)
        refine o_re ?_
        refine o_fl rfl ?_
        refine s_move hE rfl rfl ?_; clear hE a; intro a hE
        refine s_extract hE rfl rfl rfl ?_; clear hE a; intro a hE
        refine s_extract hE rfl rfl rfl ?_; clear hE a; intro a hE
        refine q_nil (q_nx ?_)
        refine o_fl rfl ?_
        refine q_nil (q_nx ?_)
        refine o_or rfl ?_ ?_
        · refine s_alloc [8, 1, 1] hE hM zero30 rfl rfl ?_; clear hE a; intro a b5 w14 hE hM'
          clear hM; have hM := hM'; clear hM'
          replace hM := hM.resplit (ss' := [zeroP]) (ns' := [10]) (by simp [zeroP]) (by simp [zeroP])
          refine q_nil (q_nx ?_)
          refine o_re ?_
          refine o_fl rfl ?_
          refine q_nil (q_nx ?_)
          refine o_fl rfl ?_
          refine q_nil (q_nx ?_)
          refine o_or rfl ?_ ?_
          · refine s_storeSeg 0 (vs := pfL (pfM (pfA (List.replicate 64 (0 : UInt8))) (List.replicate 64 (0 : UInt8)))) hE rfl rfl hM rfl sz30 (pfL_length (pfM_ok (pfA_ok (by have hl_ : (List.replicate 64 (0 : UInt8)).length = 64 := (by first | (simp; done) | (simp [*]; done) | (simp; omega)); first | omega | (simp; done) | (simp; omega))) (by first | (rw [pfN_A (show (List.replicate 64 (0 : UInt8)).length % 64 = 0 by rw [List.length_replicate])]; simp) | (rw [pfN_M (show (List.replicate 64 (0 : UInt8)).length % 64 = 0 by rw [List.length_replicate]) (show (List.replicate 64 (0 : UInt8)).length % 64 = 0 by rw [List.length_replicate])]; simp) | decide))) (pfL_one _) rfl (by simp [zeroP]) rfl (by intro X h; cases h; exact fun e => ((apart_of_get hM.apart (i := 0) (j := 2) rfl rfl (by decide)).1 _ (.head _)).1 (by rw [e]; exact .head _)) ?_; intro w15 hM'; clear hM; have hM := hM'; clear hM'
            simp only [List.set_cons_zero] at hM
            refine q_nil (q_nx ?_)
            refine o_cut (fun _ => True) ?_
            refine o_re ?_
            refine o_weak (fun _ => False) (fun _ _ => trivial) ?_
            refine o_leaf rfl rfl ?_
            refine s_assign hE rfl rfl ?_; clear hE a; intro a hE
            refine q_nil (q_ph (q_nil ?_))
            replace hE : Env a 131 [(0, _), (2, _), (3, _), (4, _), (5, _), (6, _), (25, _)] := hE.sel [0, 2, 3, 4, 5, 6, 25] rfl
            replace hM : Mem _ _ w15 [_, _, _, _, _, _, _, _, _] := hM.pick [0, 1, 2, 3, 4, 5, 6, 7, 8] rfl
            refine q_then_n ⟨_, _, hE.sel [0, 2, 3, 4, 5, 6, 25] rfl, hM⟩
          trivial
        trivial
      refine o_or rfl ?_ ?_
      · refine s_alloc [8, 1, 1] hE hM zero30 rfl rfl ?_; clear hE a; intro a b5 w13 hE hM'
        clear hM; have hM := hM'; clear hM'
        replace hM := hM.resplit (ss' := [zeroP]) (ns' := [10]) (by simp [zeroP]) (by simp [zeroP])
        refine q_nil (q_nx ?_)
        refine o_cut (fun _ => True) ?_
        refine o_re ?_
        refine o_fl rfl ?_
        refine q_nil (q_nx ?_)
        refine o_fl rfl ?_
        refine q_nil (q_nx ?_)
        refine o_or rfl ?_ ?_
        · obtain ⟨cq7, hq7⟩ := own_rd (hM.get 1 rfl)
          refine s_call hE rfl Tryd.call22 (pmore_c (pfA (List.replicate 64 (0 : UInt8))) _ (List.replicate 64 (0 : UInt8)) _ _ (hM.get 6 rfl) hq7 (pfA_ok (by have hl_ : (List.replicate 64 (0 : UInt8)).length = 64 := (by first | (simp; done) | (simp [*]; done) | (simp; omega)); first | omega | (simp; done) | (simp; omega))) (by have hl_ : (List.replicate 64 (0 : UInt8)).length = 64 := (by first | (simp; done) | (simp [*]; done) | (simp; omega)); first | omega | (simp; done) | (simp; omega))) rfl ?_
          rintro e w14 ⟨rfl, hN⟩
          refine ⟨_, rfl, hN.sta0 _, ?_⟩; clear hE a; intro a hE
          replace hM : Mem _ _ w14 [_, _, _, _, _, _, _, _, _] := hM.call0 hN trivial; clear hN
          refine q_nil (q_nx ?_)
          refine o_re ?_
          refine o_fl rfl ?_
          refine s_move hE rfl rfl ?_; clear hE a; intro a hE
          refine s_extract hE rfl rfl rfl ?_; clear hE a; intro a hE
          refine s_extract hE rfl rfl rfl ?_; clear hE a; intro a hE
          refine q_nil (q_nx ?_)
          refine o_fl rfl ?_
          refine q_nil (q_nx ?_)
          refine o_weak (fun b => b = b5) (fun _ _ => trivial) ?_
          refine o_or rfl ?_ ?_
          · refine s_storeSeg 0 (vs := pfL (pfM (pfA (List.replicate 64 (0 : UInt8))) (List.replicate 64 (0 : UInt8)))) hE rfl rfl hM rfl sz30 (pfL_length (pfM_ok (pfA_ok (by have hl_ : (List.replicate 64 (0 : UInt8)).length = 64 := (by first | (simp; done) | (simp [*]; done) | (simp; omega)); first | omega | (simp; done) | (simp; omega))) (by first | (rw [pfN_A (show (List.replicate 64 (0 : UInt8)).length % 64 = 0 by rw [List.length_replicate])]; simp) | (rw [pfN_M (show (List.replicate 64 (0 : UInt8)).length % 64 = 0 by rw [List.length_replicate]) (show (List.replicate 64 (0 : UInt8)).length % 64 = 0 by rw [List.length_replicate])]; simp) | decide))) (pfL_one _) rfl (by simp [zeroP]) rfl (by intro X h; cases h; rfl) ?_; intro w15 hM'; clear hM; have hM := hM'; clear hM'
            simp only [List.set_cons_zero] at hM
            refine q_nil (q_nx ?_)
            refine o_cut (fun _ => True) ?_
            refine o_re ?_
            refine o_weak (fun _ => False) (fun _ _ => trivial) ?_
            refine o_leaf rfl rfl ?_
            refine s_assign hE rfl rfl ?_; clear hE a; intro a hE
            refine q_nil (q_ph (q_nil ?_))
            replace hE : Env a 131 [(0, _), (2, _), (3, _), (4, _), (5, _), (6, _), (25, _)] := hE.sel [0, 2, 3, 4, 5, 6, 25] rfl
            replace hM : Mem _ _ w15 [_, _, _, _, _, _, _, _, _] := hM.pick [0, 1, 2, 3, 4, 5, 6, 7, 8] rfl
            refine q_then_n ⟨_, _, hE.sel [0, 2, 3, 4, 5, 6, 25] rfl, hM⟩
          trivial
        trivial
      trivial
    refine o_or rfl ?_ ?_
    · refine s_alloc [8, 1, 1] hE hM zero30 rfl rfl ?_; clear hE a; intro a b5 w12 hE hM'
      clear hM; have hM := hM'; clear hM'
      replace hM := hM.resplit (ss' := [zeroP]) (ns' := [10]) (by simp [zeroP]) (by simp [zeroP])
      refine q_nil (q_nx ?_)
      refine o_re ?_
      refine o_fl rfl ?_
      refine q_nil (q_nx ?_)
      refine o_fl rfl ?_
      refine q_nil (q_nx ?_)
      refine o_or rfl ?_ ?_
      · refine s_makeSlice (m := 64) (zc := [bV 0]) hE rfl rfl hM sl23 ⟨.int .u8 0, by kernel_rfl, rfl⟩ rfl rfl (by omega) (by omega) (by decide) rfl ?_; clear hE a; intro a v38 w13 hE hM'; clear hM; have hM := hM'; clear hM'
        replace hM := hM.ownEq (m' := (List.replicate 64 (0 : UInt8)).length) (cs' := bv (List.replicate 64 (0 : UInt8))) (by simp) (by simp [bv])
        refine q_nil (q_nx ?_)
        refine o_cut (fun _ => True) ?_
        refine o_re ?_
        refine o_fl rfl ?_
        refine q_nil (q_nx ?_)
        refine o_fl rfl ?_
        refine q_nil (q_nx ?_)
        refine o_or rfl ?_ ?_
        · obtain ⟨cq8, hq8⟩ := own_rd (hM.get 0 rfl)
          refine s_call hE rfl Tryd.call22 (pmore_c (pfA (List.replicate 64 (0 : UInt8))) _ (List.replicate 64 (0 : UInt8)) _ _ (hM.get 6 rfl) hq8 (pfA_ok (by have hl_ : (List.replicate 64 (0 : UInt8)).length = 64 := (by first | (simp; done) | (simp [*]; done) | (simp; omega)); first | omega | (simp; done) | (simp; omega))) (by have hl_ : (List.replicate 64 (0 : UInt8)).length = 64 := (by first | (simp; done) | (simp [*]; done) | (simp; omega)); first | omega | (simp; done) | (simp; omega))) rfl ?_
          rintro e w14 ⟨rfl, hN⟩
          refine ⟨_, rfl, hN.sta0 _, ?_⟩; clear hE a; intro a hE
          replace hM : Mem _ _ w14 [_, _, _, _, _, _, _, _, _] := hM.call0 hN trivial; clear hN
          refine q_nil (q_nx ?_)
          refine o_re ?_
          refine o_fl rfl ?_
          refine s_move hE rfl rfl ?_; clear hE a; intro a hE
          refine s_extract hE rfl rfl rfl ?_; clear hE a; intro a hE
          refine s_extract hE rfl rfl rfl ?_; clear hE a; intro a hE
          refine q_nil (q_nx ?_)
          refine o_fl rfl ?_
          refine q_nil (q_nx ?_)
          refine o_weak (fun b => b = b5) (fun _ _ => trivial) ?_
          refine o_or rfl ?_ ?_
          · replace hM : Mem _ _ w14 [_, _, _, _, _, _, _, _, _] := hM.pick [1, 0, 2, 3, 4, 5, 6, 7, 8] rfl
            refine s_storeSeg 0 (vs := pfL (pfM (pfA (List.replicate 64 (0 : UInt8))) (List.replicate 64 (0 : UInt8)))) hE rfl rfl hM rfl sz30 (pfL_length (pfM_ok (pfA_ok (by have hl_ : (List.replicate 64 (0 : UInt8)).length = 64 := (by first | (simp; done) | (simp [*]; done) | (simp; omega)); first | omega | (simp; done) | (simp; omega))) (by first | (rw [pfN_A (show (List.replicate 64 (0 : UInt8)).length % 64 = 0 by rw [List.length_replicate])]; simp) | (rw [pfN_M (show (List.replicate 64 (0 : UInt8)).length % 64 = 0 by rw [List.length_replicate]) (show (List.replicate 64 (0 : UInt8)).length % 64 = 0 by rw [List.length_replicate])]; simp) | decide))) (pfL_one _) rfl (by simp [zeroP]) rfl (by intro X h; cases h; rfl) ?_; intro w15 hM'; clear hM; have hM := hM'; clear hM'
            simp only [List.set_cons_zero] at hM
            refine q_nil (q_nx ?_)
            refine o_cut (fun _ => True) ?_
            refine o_re ?_
            refine o_weak (fun _ => False) (fun _ _ => trivial) ?_
            refine o_leaf rfl rfl ?_
            refine s_assign hE rfl rfl ?_; clear hE a; intro a hE
            refine q_nil (q_ph (q_nil ?_))
            replace hE : Env a 131 [(0, _), (2, _), (3, _), (4, _), (5, _), (6, _), (25, _)] := hE.sel [0, 2, 3, 4, 5, 6, 25] rfl
            replace hM : Mem _ _ w15 [_, _, _, _, _, _, _, _, _] := hM.pick [0, 1, 2, 3, 4, 5, 6, 7, 8] rfl
            refine q_then_n ⟨_, _, hE.sel [0, 2, 3, 4, 5, 6, 25] rfl, hM⟩
          trivial
        trivial
      trivial
    trivial
  clear hE hM a; rintro a w16 ⟨b5, v38, hE, hM⟩
  refine wp_seq_j (fun a w' => ∃ (b7 : Nat), ∃ (v44 : Value), Env a 131 [(0, .bool false), (2, .int .i64 ((pfE (List.replicate 63 (0 : UInt8)) : Nat) : Int)), (3, .pointer (some ⟨b3, 0, none⟩)), (4, .int .i64 ((pfE (List.replicate 64 (0 : UInt8)) : Nat) : Int)), (5, .pointer (some ⟨b5, 0, none⟩)), (6, .int .i64 ((pfF (pfA (List.replicate 64 (0 : UInt8))) (List.replicate 64 (0 : UInt8)) : Nat) : Int)), (8, .int .i64 ((pfF (pfM (pfA (List.replicate 64 (0 : UInt8))) (List.replicate 64 (0 : UInt8))) (List.replicate 1 (0 : UInt8)) : Nat) : Int)), (25, .bool false)] ∧ Mem w [] w' [blk b7 [pfL (pfM (pfM (pfA (List.replicate 64 (0 : UInt8))) (List.replicate 64 (0 : UInt8))) (List.replicate 1 (0 : UInt8)))] [10] 30, own v44 1 (List.replicate 1 (0 : UInt8)).length (bv (List.replicate 1 (0 : UInt8))), blk b5 [pfL (pfM (pfA (List.replicate 64 (0 : UInt8))) (List.replicate 64 (0 : UInt8)))] [10] 30, own v38 1 (List.replicate 64 (0 : UInt8)).length (bv (List.replicate 64 (0 : UInt8))), blk b3 [pfL (pfA (List.replicate 64 (0 : UInt8)))] [10] 30, own v32 1 (List.replicate 64 (0 : UInt8)).length (bv (List.replicate 64 (0 : UInt8))), blk b1 [pfL (pfA (List.replicate 63 (0 : UInt8)))] [10] 30, own v27 1 (List.replicate 63 (0 : UInt8)).length (bv (List.replicate 63 (0 : UInt8))), glb 0, tabQ, errS]) ?_ ?_
  · refine wp_treeM hM (by kernel_rfl) (fun _ => True) (fun _ => True) (.re [(0, true), (1, false), (2, false), (3, true), (4, true), (5, true), (6, false), (7, false), (8, true)] (.fl 0 (.weak (.fl 1 (.or 1 (.re [(2, false), (3, true), (4, true), (5, true), (6, false), (7, false), (8, true)] (.fl 0 (.fl 0 (.or 2 (.re [(3, true), (4, true), (5, true), (6, false), (7, false), (8, true)] (.fl 3 (.fl 0 (.or 6 (.re [(7, false), (8, true)] (.fl 0 (.fl 0 (.or 7 (.cut (.re [(8, true)] (.weak (.leaf 1)))) (.stop))))) (.stop))))) (.or 6 (.cut (.re [(2, false), (3, true), (4, true), (5, true), (7, false), (8, true)] (.fl 0 (.fl 0 (.or 2 (.re [(3, true), (4, true), (5, true), (7, false), (8, true)] (.fl 3 (.fl 0 (.weak (.or 7 (.cut (.re [(8, true)] (.weak (.leaf 1)))) (.stop)))))) (.stop)))))) (.stop)))))) (.or 6 (.re [(1, false), (2, false), (3, true), (4, true), (5, true), (7, false), (8, true)] (.fl 0 (.fl 0 (.or 1 (.cut (.re [(2, false), (3, true), (4, true), (5, true), (7, false), (8, true)] (.fl 0 (.fl 0 (.or 2 (.re [(3, true), (4, true), (5, true), (7, false), (8, true)] (.fl 3 (.fl 0 (.weak (.or 7 (.cut (.re [(8, true)] (.weak (.leaf 1)))) (.stop)))))) (.stop)))))) (.stop))))) (.stop))))))) [(0, true), (1, false), (2, false), (3, true), (4, true), (5, true), (6, false), (7, false), (8, true)] [(0, [(2, 0), (3, 2), (4, 3), (5, 3), (7, 0), (8, 0)]), (1, [(2, 1), (3, 2), (4, 3), (5, 3), (7, 1), (8, 1)]), (2, [(3, 2), (4, 3), (5, 3), (7, 2), (8, 2)]), (4, [(7, 4), (8, 4)]), (5, [(8, 5)]), (6, [(7, 6), (8, 6)]), (7, [(8, 7)])] (by kernel_rfl) ?_
    intro w17 hM' hww17; clear hM; have hM := hM'; clear hM'
    refine o_re ?_
    refine o_fl rfl ?_
    refine q_nil (q_nx ?_)
    refine o_weak (fun b => b ≠ b5) (fun _ _ => trivial) ?_
    refine o_fl rfl ?_
    refine s_loadN hE rfl (hM.get 0 rfl) row30 rfl (by intro X h; cases h; simp) rfl ?_; clear hE a; intro a hE
    refine q_nil (q_nx ?_)
    refine o_or rfl ?_ ?_
    · refine s_makeSlice (m := 1) (zc := [bV 0]) hE rfl rfl hM sl23 ⟨.int .u8 0, by kernel_rfl, rfl⟩ rfl rfl (by omega) (by omega) (by decide) rfl ?_; clear hE a; intro a v44 w18 hE hM'; clear hM; have hM := hM'; clear hM'
      replace hM := hM.ownEq (m' := (List.replicate 1 (0 : UInt8)).length) (cs' := bv (List.replicate 1 (0 : UInt8))) (by simp) (by simp [bv])
      refine q_nil (q_nx ?_)
      refine o_re ?_
      refine o_fl rfl ?_
      refine q_nil (q_nx ?_)
      refine o_fl rfl ?_
      refine q_nil (q_nx ?_)
      refine o_or rfl ?_ ?_
      · obtain ⟨cq12, hq12⟩ := own_rd (hM.get 0 rfl)
        refine s_call hE rfl Tryd.call22 (pmore_c (pfM (pfA (List.replicate 64 (0 : UInt8))) (List.replicate 64 (0 : UInt8))) _ (List.replicate 1 (0 : UInt8)) _ _ (hM.get 7 rfl) hq12 (pfM_ok (pfA_ok (by have hl_ : (List.replicate 64 (0 : UInt8)).length = 64 := (by first | (simp; done) | (simp [*]; done) | (simp; omega)); first | omega | (simp; done) | (simp; omega))) (by first | (rw [pfN_A (show (List.replicate 64 (0 : UInt8)).length % 64 = 0 by rw [List.length_replicate])]; simp) | (rw [pfN_M (show (List.replicate 64 (0 : UInt8)).length % 64 = 0 by rw [List.length_replicate]) (show (List.replicate 64 (0 : UInt8)).length % 64 = 0 by rw [List.length_replicate])]; simp) | decide)) (by have hl_ : (List.replicate 1 (0 : UInt8)).length = 1 := (by first | (simp; done) | (simp [*]; done) | (simp; omega)); first | omega | (simp; done) | (simp; omega))) rfl ?_
        rintro e w19 ⟨rfl, hN⟩
        refine ⟨_, rfl, hN.sta0 _, ?_⟩; clear hE a; intro a hE
        replace hM : Mem _ _ w19 [_, _, _, _, _, _, _, _, _, _] := hM.call0 hN trivial; clear hN
        refine q_nil (q_nx ?_)
        refine o_re ?_
        refine o_fl rfl ?_
        refine s_move hE rfl rfl ?_; clear hE a; intro a hE
        refine s_extract hE rfl rfl rfl ?_; clear hE a; intro a hE
        refine s_extract hE rfl rfl rfl ?_; clear hE a; intro a hE
        refine q_nil (q_nx ?_)
        refine o_fl rfl ?_
        refine q_nil (q_nx ?_)
        refine o_or rfl ?_ ?_
        · refine s_alloc [8, 1, 1] hE hM zero30 rfl rfl ?_; clear hE a; intro a b7 w20 hE hM'
          clear hM; have hM := hM'; clear hM'
          replace hM := hM.resplit (ss' := [zeroP]) (ns' := [10]) (by simp [zeroP]) (by simp [zeroP])
          refine q_nil (q_nx ?_)
          refine o_re ?_
          refine o_fl rfl ?_
          refine q_nil (q_nx ?_)
          refine o_fl rfl ?_
          refine q_nil (q_nx ?_)
          refine o_or rfl ?_ ?_
          · refine s_storeSeg 0 (vs := pfL (pfM (pfM (pfA (List.replicate 64 (0 : UInt8))) (List.replicate 64 (0 : UInt8))) (List.replicate 1 (0 : UInt8)))) hE rfl rfl hM rfl sz30 (pfL_length (pfM_ok (pfM_ok (pfA_ok (by have hl_ : (List.replicate 64 (0 : UInt8)).length = 64 := (by first | (simp; done) | (simp [*]; done) | (simp; omega)); first | omega | (simp; done) | (simp; omega))) (by first | (rw [pfN_A (show (List.replicate 64 (0 : UInt8)).length % 64 = 0 by rw [List.length_replicate])]; simp) | (rw [pfN_M (show (List.replicate 64 (0 : UInt8)).length % 64 = 0 by rw [List.length_replicate]) (show (List.replicate 64 (0 : UInt8)).length % 64 = 0 by rw [List.length_replicate])]; simp) | decide)) (by first | (rw [pfN_A (show (List.replicate 64 (0 : UInt8)).length % 64 = 0 by rw [List.length_replicate])]; simp) | (rw [pfN_M (show (List.replicate 64 (0 : UInt8)).length % 64 = 0 by rw [List.length_replicate]) (show (List.replicate 64 (0 : UInt8)).length % 64 = 0 by rw [List.length_replicate])]; simp) | decide))) (pfL_one _) rfl (by simp [zeroP]) rfl (by intro X h; cases h; exact fun e => ((apart_of_get hM.apart (i := 0) (j := 2) rfl rfl (by decide)).1 _ (.head _)).1 (by rw [e]; exact .head _)) ?_; intro w21 hM'; clear hM; have hM := hM'; clear hM'
            simp only [List.set_cons_zero] at hM
            refine q_nil (q_nx ?_)
            refine o_cut (fun _ => True) ?_
            refine o_re ?_
            refine o_weak (fun _ => False) (fun _ _ => trivial) ?_
            refine o_leaf rfl rfl ?_
            refine s_assign hE rfl rfl ?_; clear hE a; intro a hE
            refine q_nil (q_ph (q_nil ?_))
            replace hE : Env a 131 [(0, _), (2, _), (3, _), (4, _), (5, _), (6, _), (8, _), (25, _)] := hE.sel [0, 2, 3, 4, 5, 6, 8, 25] rfl
            replace hM : Mem _ _ w21 [_, _, _, _, _, _, _, _, _, _, _] := hM.pick [0, 1, 2, 3, 4, 5, 6, 7, 8, 9, 10] rfl
            refine q_then_n ⟨_, _, hE.sel [0, 2, 3, 4, 5, 6, 8, 25] rfl, hM⟩
          trivial
        trivial
      refine o_or rfl ?_ ?_
      · refine s_alloc [8, 1, 1] hE hM zero30 rfl rfl ?_; clear hE a; intro a b7 w19 hE hM'
        clear hM; have hM := hM'; clear hM'
        replace hM := hM.resplit (ss' := [zeroP]) (ns' := [10]) (by simp [zeroP]) (by simp [zeroP])
        refine q_nil (q_nx ?_)
        refine o_cut (fun _ => True) ?_
        refine o_re ?_
        refine o_fl rfl ?_
        refine q_nil (q_nx ?_)
        refine o_fl rfl ?_
        refine q_nil (q_nx ?_)
        refine o_or rfl ?_ ?_
        · obtain ⟨cq13, hq13⟩ := own_rd (hM.get 1 rfl)
          refine s_call hE rfl Tryd.call22 (pmore_c (pfM (pfA (List.replicate 64 (0 : UInt8))) (List.replicate 64 (0 : UInt8))) _ (List.replicate 1 (0 : UInt8)) _ _ (hM.get 8 rfl) hq13 (pfM_ok (pfA_ok (by have hl_ : (List.replicate 64 (0 : UInt8)).length = 64 := (by first | (simp; done) | (simp [*]; done) | (simp; omega)); first | omega | (simp; done) | (simp; omega))) (by first | (rw [pfN_A (show (List.replicate 64 (0 : UInt8)).length % 64 = 0 by rw [List.length_replicate])]; simp) | (rw [pfN_M (show (List.replicate 64 (0 : UInt8)).length % 64 = 0 by rw [List.length_replicate]) (show (List.replicate 64 (0 : UInt8)).length % 64 = 0 by rw [List.length_replicate])]; simp) | decide)) (by have hl_ : (List.replicate 1 (0 : UInt8)).length = 1 := (by first | (simp; done) | (simp [*]; done) | (simp; omega)); first | omega | (simp; done) | (simp; omega))) rfl ?_
          rintro e w20 ⟨rfl, hN⟩
          refine ⟨_, rfl, hN.sta0 _, ?_⟩; clear hE a; intro a hE
          replace hM : Mem _ _ w20 [_, _, _, _, _, _, _, _, _, _, _] := hM.call0 hN trivial; clear hN
          refine q_nil (q_nx ?_)
          refine o_re ?_
          refine o_fl rfl ?_
          refine s_move hE rfl rfl ?_; clear hE a; intro a hE
          refine s_extract hE rfl rfl rfl ?_; clear hE a; intro a hE
          refine s_extract hE rfl rfl rfl ?_; clear hE a; intro a hE
          refine q_nil (q_nx ?_)
          refine o_fl rfl ?_
          refine q_nil (q_nx ?_)
          refine o_weak (fun b => b = b7) (fun _ _ => trivial) ?_
          refine o_or rfl ?_ ?_
          · refine s_storeSeg 0 (vs := pfL (pfM (pfM (pfA (List.replicate 64 (0 : UInt8))) (List.replicate 64 (0 : UInt8))) (List.replicate 1 (0 : UInt8)))) hE rfl rfl hM rfl sz30 (pfL_length (pfM_ok (pfM_ok (pfA_ok (by have hl_ : (List.replicate 64 (0 : UInt8)).length = 64 := (by first | (simp; done) | (simp [*]; done) | (simp; omega)); first | omega | (simp; done) | (simp; omega))) (by first | (rw [pfN_A (show (List.replicate 64 (0 : UInt8)).length % 64 = 0 by rw [List.length_replicate])]; simp) | (rw [pfN_M (show (List.replicate 64 (0 : UInt8)).length % 64 = 0 by rw [List.length_replicate]) (show (List.replicate 64 (0 : UInt8)).length % 64 = 0 by rw [List.length_replicate])]; simp) | decide)) (by first | (rw [pfN_A (show (List.replicate 64 (0 : UInt8)).length % 64 = 0 by rw [List.length_replicate])]; simp) | (rw [pfN_M (show (List.replicate 64 (0 : UInt8)).length % 64 = 0 by rw [List.length_replicate]) (show (List.replicate 64 (0 : UInt8)).length % 64 = 0 by rw [List.length_replicate])]; simp) | decide))) (pfL_one _) rfl (by simp [zeroP]) rfl (by intro X h; cases h; rfl) ?_; intro w21 hM'; clear hM; have hM := hM'; clear hM'
            simp only [List.set_cons_zero] at hM
            refine q_nil (q_nx ?_)
            refine o_cut (fun _ => True) ?_
            refine o_re ?_
            refine o_weak (fun _ => False) (fun _ _ => trivial) ?_
            refine o_leaf rfl rfl ?_
            refine s_assign hE rfl rfl ?_; clear hE a; intro a hE
            refine q_nil (q_ph (q_nil ?_))
            replace hE : Env a 131 [(0, _), (2, _), (3, _), (4, _), (5, _), (6, _), (8, _), (25, _)] := hE.sel [0, 2, 3, 4, 5, 6, 8, 25] rfl
            replace hM : Mem _ _ w21 [_, _, _, _, _, _, _, _, _, _, _] := hM.pick [0, 1, 2, 3, 4, 5, 6, 7, 8, 9, 10] rfl
            refine q_then_n ⟨_, _, hE.sel [0, 2, 3, 4, 5, 6, 8, 25] rfl, hM⟩
          trivial
        trivial
      trivial
    refine o_or rfl ?_ ?_
    · refine s_alloc [8, 1, 1] hE hM zero30 rfl rfl ?_; clear hE a; intro a b7 w18 hE hM'
      clear hM; have hM := hM'; clear hM'
      replace hM := hM.resplit (ss' := [zeroP]) (ns' := [10]) (by simp [zeroP]) (by simp [zeroP])
      refine q_nil (q_nx ?_)
      refine o_re ?_
      refine o_fl rfl ?_
      refine q_nil (q_nx ?_)
      refine o_fl rfl ?_
      refine q_nil (q_nx ?_)
      refine o_or rfl ?_ ?_
      · refine s_makeSlice (m := 1) (zc := [bV 0]) hE rfl rfl hM sl23 ⟨.int .u8 0, by kernel_rfl, rfl⟩ rfl rfl (by omega) (by omega) (by decide) rfl ?_; clear hE a; intro a v44 w19 hE hM'; clear hM; have hM := hM'; clear hM'
        replace hM := hM.ownEq (m' := (List.replicate 1 (0 : UInt8)).length) (cs' := bv (List.replicate 1 (0 : UInt8))) (by simp) (by simp [bv])
        refine q_nil (q_nx ?_)
        refine o_cut (fun _ => True) ?_
        refine o_re ?_
        refine o_fl rfl ?_
        refine q_nil (q_nx ?_)
        refine o_fl rfl ?_
        refine q_nil (q_nx ?_)
        refine o_or rfl ?_ ?_
        · obtain ⟨cq14, hq14⟩ := own_rd (hM.get 0 rfl)
          refine s_call hE rfl Tryd.call22 (pmore_c (pfM (pfA (List.replicate 64 (0 : UInt8))) (List.replicate 64 (0 : UInt8))) _ (List.replicate 1 (0 : UInt8)) _ _ (hM.get 8 rfl) hq14 (pfM_ok (pfA_ok (by have hl_ : (List.replicate 64 (0 : UInt8)).length = 64 := (by first | (simp; done) | (simp [*]; done) | (simp; omega)); first | omega | (simp; done) | (simp; omega))) (by first | (rw [pfN_A (show (List.replicate 64 (0 : UInt8)).length % 64 = 0 by rw [List.length_replicate])]; simp) | (rw [pfN_M (show (List.replicate 64 (0 : UInt8)).length % 64 = 0 by rw [List.length_replicate]) (show (List.replicate 64 (0 : UInt8)).length % 64 = 0 by rw [List.length_replicate])]; simp) | decide)) (by have hl_ : (List.replicate 1 (0 : UInt8)).length = 1 := (by first | (simp; done) | (simp [*]; done) | (simp; omega)); first | omega | (simp; done) | (simp; omega))) rfl ?_
          rintro e w20 ⟨rfl, hN⟩
          refine ⟨_, rfl, hN.sta0 _, ?_⟩; clear hE a; intro a hE
          replace hM : Mem _ _ w20 [_, _, _, _, _, _, _, _, _, _, _] := hM.call0 hN trivial; clear hN
          refine q_nil (q_nx ?_)
          refine o_re ?_
          refine o_fl rfl ?_
          refine s_move hE rfl rfl ?_; clear hE a; intro a hE
          refine s_extract hE rfl rfl rfl ?_; clear hE a; intro a hE
          refine s_extract hE rfl rfl rfl ?_; clear hE a; intro a hE
          refine q_nil (q_nx ?_)
          refine o_fl rfl ?_
          refine q_nil (q_nx ?_)
          refine o_weak (fun b => b = b7) (fun _ _ => trivial) ?_
          refine o_or rfl ?_ ?_
          · replace hM : Mem _ _ w20 [_, _, _, _, _, _, _, _, _, _, _] := hM.pick [1, 0, 2, 3, 4, 5, 6, 7, 8, 9, 10] rfl
            refine s_storeSeg 0 (vs := pfL (pfM (pfM (pfA (List.replicate 64 (0 : UInt8))) (List.replicate 64 (0 : UInt8))) (List.replicate 1 (0 : UInt8)))) hE rfl rfl hM rfl sz30 (pfL_length (pfM_ok (pfM_ok (pfA_ok (by have hl_ : (List.replicate 64 (0 : UInt8)).length = 64 := (by first | (simp; done) | (simp [*]; done) | (simp; omega)); first | omega | (simp; done) | (simp; omega))) (by first | (rw [pfN_A (show (List.replicate 64 (0 : UInt8)).length % 64 = 0 by rw [List.length_replicate])]; simp) | (rw [pfN_M (show (List.replicate 64 (0 : UInt8)).length % 64 = 0 by rw [List.length_replicate]) (show (List.replicate 64 (0 : UInt8)).length % 64 = 0 by rw [List.length_replicate])]; simp) | decide)) (by first | (rw [pfN_A (show (List.replicate 64 (0 : UInt8)).length % 64 = 0 by rw [List.length_replicate])]; simp) | (rw [pfN_M (show (List.replicate 64 (0 : UInt8)).length % 64 = 0 by rw [List.length_replicate]) (show (List.replicate 64 (0 : UInt8)).length % 64 = 0 by rw [List.length_replicate])]; simp) | decide))) (pfL_one _) rfl (by simp [zeroP]) rfl (by intro X h; cases h; rfl) ?_; intro w21 hM'; clear hM; have hM := hM'; clear hM'
            simp only [List.set_cons_zero] at hM
            refine q_nil (q_nx ?_)
            refine o_cut (fun _ => True) ?_
            refine o_re ?_
            refine o_weak (fun _ => False) (fun _ _ => trivial) ?_
            refine o_leaf rfl rfl ?_
            refine s_assign hE rfl rfl ?_; clear hE a; intro a hE
            refine q_nil (q_ph (q_nil ?_))
            replace hE : Env a 131 [(0, _), (2, _), (3, _), (4, _), (5, _), (6, _), (8, _), (25, _)] := hE.sel [0, 2, 3, 4, 5, 6, 8, 25] rfl
            replace hM : Mem _ _ w21 [_, _, _, _, _, _, _, _, _, _, _] := hM.pick [0, 1, 2, 3, 4, 5, 6, 7, 8, 9, 10] rfl
            refine q_then_n ⟨_, _, hE.sel [0, 2, 3, 4, 5, 6, 8, 25] rfl, hM⟩
          trivial
        trivial
      trivial
    trivial
  clear hE hM a; rintro a w22 ⟨b7, v44, hE, hM⟩
  refine wp_seq_k (fun K6 hK6 => ?_)
  refine wp_plain [false] rfl rfl ?_
  refine s_alloc [8, 1, 1] hE hM zero30 rfl rfl ?_; clear hE a; intro a b9 w23 hE hM'
  clear hM; have hM := hM'; clear hM'
  replace hM := hM.resplit (ss' := [zeroP]) (ns' := [10]) (by simp [zeroP]) (by simp [zeroP])
  refine q_nil ?_
  refine hK6 _ _ ?_
  refine wp_seq_k (fun K7 hK7 => ?_)
  refine wp_plain [true, false, true, true, true, false, false, true] rfl rfl ?_
  refine s_loadN hE rfl (hM.get 0 rfl) row30 rfl (by intro X h; cases h) rfl ?_; clear hE a; intro a hE
  refine s_call hE rfl Tryd.call22 (pmore_c none _ ([] : List UInt8) _ _ (hM.get 9 rfl) (rd_nil _) trivial (by have hl_ : ([] : List UInt8).length = 0 := rfl; first | omega | (simp; done) | (simp; omega))) rfl ?_
  rintro e w24 ⟨rfl, hN⟩
  refine ⟨_, rfl, trivial, ?_⟩; clear hE a; intro a hE
  replace hM : Mem _ _ w24 [_, _, _, _, _, _, _, _, _, _, _, _] := hM.call0 hN trivial; clear hN
  refine s_move hE rfl rfl ?_; clear hE a; intro a hE
  refine s_extract hE rfl rfl rfl ?_; clear hE a; intro a hE
  refine s_extract hE rfl rfl rfl ?_; clear hE a; intro a hE
  refine s_alloc [8, 1, 1] hE hM zero30 rfl rfl ?_; clear hE a; intro a b10 w25 hE hM'
  clear hM; have hM := hM'; clear hM'
  replace hM := hM.resplit (ss' := [zeroP]) (ns' := [10]) (by simp [zeroP]) (by simp [zeroP])
  refine s_storeSeg 0 (vs := pfL (pfM none ([] : List UInt8))) hE rfl rfl hM rfl sz30 (pfL_length (pfM_ok trivial (by first | (rw [pfN_A (show (List.replicate 64 (0 : UInt8)).length % 64 = 0 by rw [List.length_replicate])]; simp) | (rw [pfN_M (show (List.replicate 64 (0 : UInt8)).length % 64 = 0 by rw [List.length_replicate]) (show (List.replicate 64 (0 : UInt8)).length % 64 = 0 by rw [List.length_replicate])]; simp) | decide))) (pfL_one _) rfl (by simp [zeroP]) rfl (by intro X h; cases h) ?_; intro w26 hM'; clear hM; have hM := hM'; clear hM'
  simp only [List.set_cons_zero] at hM
  refine s_assign hE rfl rfl ?_; clear hE a; intro a hE
  refine q_nil ?_
  replace hE : Env a 131 [(0, _), (2, _), (3, _), (4, _), (5, _), (6, _), (8, _), (9, _), (11, _), (25, _)] := hE.sel [0, 2, 3, 4, 5, 6, 8, 9, 11, 25] rfl
  refine hK7 _ _ ?_
  refine wp_seq_k (fun K8 hK8 => ?_)
  refine wp_plain [false, true, false, true, true, true, false, false, true] rfl rfl ?_
  refine s_call hE rfl Tryd.call29 (spelt_c ([] : List UInt8) _ (hM.get 10 rfl) (hM.get 11 rfl) (by have hl_0 : ([] : List UInt8).length = 0 := (by first | (simp; done) | (simp [*]; done) | (simp; omega)); first | omega | assumption | (simp; done) | (simp; omega) | decide)) rfl ?_
  rintro e w27 ⟨rfl, hN⟩
  refine ⟨_, rfl, trivial, ?_⟩; clear hE a; intro a hE
  replace hM : Mem _ _ w27 [_, _, _, _, _, _, _, _, _, _, _, _, _] := hM.call0 hN trivial; clear hN
  refine s_bin hE rfl rfl (show Bin _ _ _ (.string (str (hexL (shaW ([] : List UInt8))))) (.string (str [48])) (.string (str ((hexL (shaW ([] : List UInt8))) ++ [48]))) from bin_strs (by have hl_x : (hexL (shaW ([] : List UInt8))).length = 64 := (by simp); first | omega | (simp; done) | (simp; omega))) rfl ?_; clear hE a; intro a hE
  refine s_call hE rfl Tryd.call25 (of_c ((hexL (shaW ([] : List UInt8))) ++ [48]) _ (hM.get 11 rfl) (hM.get 12 rfl)) rfl ?_
  rintro e w28 ⟨rfl, hN⟩
  refine ⟨_, rfl, trivial, ?_⟩; clear hE a; intro a hE
  replace hM : Mem _ _ w28 [_, _, _, _, _, _, _, _, _, _, _, _, _] := hM.call0 hN trivial; clear hN
  refine s_move hE rfl rfl ?_; clear hE a; intro a hE
  refine s_extract hE rfl rfl rfl ?_; clear hE a; intro a hE
  refine s_extract hE rfl rfl rfl ?_; clear hE a; intro a hE
  refine s_alloc [32] hE hM zero35 rfl rfl ?_; clear hE a; intro a b12 w29 hE hM'
  clear hM; have hM := hM'; clear hM'
  refine s_storeSeg 0 hE rfl rfl hM rfl sz35 ((bv_length _).trans (ofT_len ..)) (bv_one _) rfl ((bv_length _).trans (by first | (simp; done) | (simp [*]; done) | (simp; omega))) rfl (by intro X h; cases h) ?_; intro w30 hM'; clear hM; have hM := hM'; clear hM'
  simp only [List.set_cons_zero, List.set_cons_succ] at hM
  refine s_assign hE rfl rfl ?_; clear hE a; intro a hE
  refine q_nil ?_
  replace hE : Env a 131 [(0, _), (2, _), (3, _), (4, _), (5, _), (6, _), (8, _), (9, _), (11, _), (13, _), (25, _)] := hE.sel [0, 2, 3, 4, 5, 6, 8, 9, 11, 13, 25] rfl
  refine hK8 _ _ ?_
  refine wp_seq_k (fun K9 hK9 => ?_)
  refine wp_plain [false, true, true, true, false, false, true] rfl rfl ?_
  refine s_call hE rfl Tryd.call25 (of_c [88, 51, 98, 48, 99, 52, 52, 50, 57, 56, 102, 99, 49, 99, 49, 52, 57, 97, 102, 98, 102, 52, 99, 56, 57, 57, 54, 102, 98, 57, 50, 52, 50, 55, 97, 101, 52, 49, 101, 52, 54, 52, 57, 98, 57, 51, 52, 99, 97, 52, 57, 53, 57, 57, 49, 98, 55, 56, 53, 50, 98, 56, 53, 53] _ (hM.get 12 rfl) (hM.get 13 rfl)) rfl ?_
  rintro e w31 ⟨rfl, hN⟩
  refine ⟨_, rfl, trivial, ?_⟩; clear hE a; intro a hE
  replace hM : Mem _ _ w31 [_, _, _, _, _, _, _, _, _, _, _, _, _, _] := hM.call0 hN trivial; clear hN
  refine s_move hE rfl rfl ?_; clear hE a; intro a hE
  refine s_extract hE rfl rfl rfl ?_; clear hE a; intro a hE
  refine s_extract hE rfl rfl rfl ?_; clear hE a; intro a hE
  refine s_alloc [32] hE hM zero35 rfl rfl ?_; clear hE a; intro a b14 w32 hE hM'
  clear hM; have hM := hM'; clear hM'
  refine s_storeSeg 0 hE rfl rfl hM rfl sz35 ((bv_length _).trans (ofT_len ..)) (bv_one _) rfl ((bv_length _).trans (by first | (simp; done) | (simp [*]; done) | (simp; omega))) rfl (by intro X h; cases h) ?_; intro w33 hM'; clear hM; have hM := hM'; clear hM'
  simp only [List.set_cons_zero, List.set_cons_succ] at hM
  refine s_assign hE rfl rfl ?_; clear hE a; intro a hE
  refine q_nil ?_
  replace hE : Env a 131 [(0, _), (2, _), (3, _), (4, _), (5, _), (6, _), (8, _), (9, _), (11, _), (13, _), (15, _), (25, _)] := hE.sel [0, 2, 3, 4, 5, 6, 8, 9, 11, 13, 15, 25] rfl
  refine hK9 _ _ ?_
  refine wp_seq_k (fun K10 hK10 => ?_)
  refine wp_plain [false, true, true, true, false, false, true] rfl rfl ?_
  refine s_call hE rfl Tryd.call25 (of_c [69, 51, 98, 48, 99, 52, 52, 50, 57, 56, 102, 99, 49, 99, 49, 52, 57, 97, 102, 98, 102, 52, 99, 56, 57, 57, 54, 102, 98, 57, 50, 52, 50, 55, 97, 101, 52, 49, 101, 52, 54, 52, 57, 98, 57, 51, 52, 99, 97, 52, 57, 53, 57, 57, 49, 98, 55, 56, 53, 50, 98, 56, 53, 53] _ (hM.get 13 rfl) (hM.get 14 rfl)) rfl ?_
  rintro e w34 ⟨rfl, hN⟩
  refine ⟨_, rfl, trivial, ?_⟩; clear hE a; intro a hE
  replace hM : Mem _ _ w34 [_, _, _, _, _, _, _, _, _, _, _, _, _, _, _] := hM.call0 hN trivial; clear hN
  refine s_move hE rfl rfl ?_; clear hE a; intro a hE
  refine s_extract hE rfl rfl rfl ?_; clear hE a; intro a hE
  refine s_extract hE rfl rfl rfl ?_; clear hE a; intro a hE
  refine s_alloc [32] hE hM zero35 rfl rfl ?_; clear hE a; intro a b16 w35 hE hM'
  clear hM; have hM := hM'; clear hM'
  refine s_storeSeg 0 hE rfl rfl hM rfl sz35 ((bv_length _).trans (ofT_len ..)) (bv_one _) rfl ((bv_length _).trans (by first | (simp; done) | (simp [*]; done) | (simp; omega))) rfl (by intro X h; cases h) ?_; intro w36 hM'; clear hM; have hM := hM'; clear hM'
  simp only [List.set_cons_zero, List.set_cons_succ] at hM
  refine s_assign hE rfl rfl ?_; clear hE a; intro a hE
  refine q_nil ?_
  replace hE : Env a 131 [(0, _), (2, _), (3, _), (4, _), (5, _), (6, _), (8, _), (9, _), (11, _), (13, _), (15, _), (17, _), (25, _)] := hE.sel [0, 2, 3, 4, 5, 6, 8, 9, 11, 13, 15, 17, 25] rfl
  refine hK10 _ _ ?_
  refine wp_seq_k (fun K11 hK11 => ?_)
  refine wp_plain [false, true, true, true, false, false, true] rfl rfl ?_
  refine s_call hE rfl Tryd.call25 (of_c ([] : List UInt8) _ (hM.get 14 rfl) (hM.get 15 rfl)) rfl ?_
  rintro e w37 ⟨rfl, hN⟩
  refine ⟨_, rfl, trivial, ?_⟩; clear hE a; intro a hE
  replace hM : Mem _ _ w37 [_, _, _, _, _, _, _, _, _, _, _, _, _, _, _, _] := hM.call0 hN trivial; clear hN
  refine s_move hE rfl rfl ?_; clear hE a; intro a hE
  refine s_extract hE rfl rfl rfl ?_; clear hE a; intro a hE
  refine s_extract hE rfl rfl rfl ?_; clear hE a; intro a hE
  refine s_alloc [32] hE hM zero35 rfl rfl ?_; clear hE a; intro a b18 w38 hE hM'
  clear hM; have hM := hM'; clear hM'
  refine s_storeSeg 0 hE rfl rfl hM rfl sz35 ((bv_length _).trans (ofT_len ..)) (bv_one _) rfl ((bv_length _).trans (by first | (simp; done) | (simp [*]; done) | (simp; omega))) rfl (by intro X h; cases h) ?_; intro w39 hM'; clear hM; have hM := hM'; clear hM'
  simp only [List.set_cons_zero, List.set_cons_succ] at hM
  refine s_assign hE rfl rfl ?_; clear hE a; intro a hE
  refine q_nil ?_
  replace hE : Env a 131 [(0, _), (2, _), (3, _), (4, _), (5, _), (6, _), (8, _), (9, _), (11, _), (13, _), (15, _), (17, _), (19, _), (25, _)] := hE.sel [0, 2, 3, 4, 5, 6, 8, 9, 11, 13, 15, 17, 19, 25] rfl
  refine hK11 _ _ ?_
  refine wp_seq_k (fun K12 hK12 => ?_)
  refine wp_plain [true, true, true, true, true, true, true, true, false, true, true, true, true, true, true, true, true, false, true, true, true, true, true, true, true, true, true, true, true, true, false, false, false, true, true, true, true, true, false, true, true, true, true, true, true, true, true, true, true, true, true, true, true, true, true, true, true, true, false, true, true] rfl rfl ?_
  refine s_move hE rfl rfl ?_; clear hE a; intro a hE
  refine s_bin hE rfl rfl bin_eql rfl ?_; clear hE a; intro a hE
  refine s_move hE rfl rfl ?_; clear hE a; intro a hE
  replace hE := hE.cast 73 rfl (show _ = Value.bool true from (congrArg Value.bool (decide_eq_true (by rw [pfE_two (show ¬ (List.replicate 63 (0 : UInt8)).length % 64 = 0 by rw [List.length_replicate]; decide)]; rfl))))
  refine g_yes hE rfl rfl ?_
  refine s_move hE rfl rfl ?_; clear hE a; intro a hE
  refine g_yes hE rfl rfl ?_
  refine s_bin hE rfl rfl bin_eql rfl ?_; clear hE a; intro a hE
  refine s_pickt hE rfl rfl rfl ?_; clear hE a; intro a hE
  refine s_move hE rfl rfl ?_; clear hE a; intro a hE
  replace hE := hE.cast 77 rfl (show _ = Value.bool true from (congrArg Value.bool (decide_eq_true (by rw [pfE_zero (show (List.replicate 64 (0 : UInt8)).length % 64 = 0 by rw [List.length_replicate])]; rfl))))
  refine g_yes hE rfl rfl ?_
  refine s_loadN hE rfl (hM.get 10 rfl) row30 rfl (by intro X h; cases h) rfl ?_; clear hE a; intro a hE
  refine g_yes hE rfl rfl ?_
  refine s_call hE rfl Tryd.call23 (psize_c (pfA (List.replicate 64 (0 : UInt8))) _ (pfA_ok (by have hl_ : (List.replicate 64 (0 : UInt8)).length = 64 := (by first | (simp; done) | (simp [*]; done) | (simp; omega)); first | omega | (simp; done) | (simp; omega)))) rfl ?_
  rintro e w40 ⟨rfl, hN⟩
  refine ⟨_, rfl, trivial, ?_⟩; clear hE a; intro a hE
  replace hM : Mem _ _ w40 [_, _, _, _, _, _, _, _, _, _, _, _, _, _, _, _, _] := hM.call0 hN trivial; clear hN
  refine g_yes hE rfl rfl ?_
  refine s_bin hE rfl rfl bin_eql rfl ?_; clear hE a; intro a hE
  refine s_pickt hE rfl rfl rfl ?_; clear hE a; intro a hE
  refine s_move hE rfl rfl ?_; clear hE a; intro a hE
  replace hE := hE.cast 82 rfl (show _ = Value.bool true from (congrArg Value.bool (decide_eq_true (by rw [pfN_A (show (List.replicate 64 (0 : UInt8)).length % 64 = 0 by rw [List.length_replicate]), List.length_replicate]; rfl))))
  refine g_yes hE rfl rfl ?_
  refine s_move hE rfl rfl ?_; clear hE a; intro a hE
  refine g_yes hE rfl rfl ?_
  refine s_bin hE rfl rfl bin_eql rfl ?_; clear hE a; intro a hE
  refine s_pickt hE rfl rfl rfl ?_; clear hE a; intro a hE
  refine s_move hE rfl rfl ?_; clear hE a; intro a hE
  replace hE := hE.cast 86 rfl (show _ = Value.bool true from (congrArg Value.bool (decide_eq_true (by rw [pfF_A (show (List.replicate 64 (0 : UInt8)).length % 64 = 0 by rw [List.length_replicate]) (show (List.replicate 64 (0 : UInt8)).length % 64 = 0 by rw [List.length_replicate])]; rfl))))
  refine g_yes hE rfl rfl ?_
  refine s_loadN hE rfl (hM.get 8 rfl) row30 rfl (by intro X h; cases h) rfl ?_; clear hE a; intro a hE
  refine g_yes hE rfl rfl ?_
  refine s_call hE rfl Tryd.call23 (psize_c (pfM (pfA (List.replicate 64 (0 : UInt8))) (List.replicate 64 (0 : UInt8))) _ (pfM_ok (pfA_ok (by have hl_ : (List.replicate 64 (0 : UInt8)).length = 64 := (by first | (simp; done) | (simp [*]; done) | (simp; omega)); first | omega | (simp; done) | (simp; omega))) (by first | (rw [pfN_A (show (List.replicate 64 (0 : UInt8)).length % 64 = 0 by rw [List.length_replicate])]; simp) | (rw [pfN_M (show (List.replicate 64 (0 : UInt8)).length % 64 = 0 by rw [List.length_replicate]) (show (List.replicate 64 (0 : UInt8)).length % 64 = 0 by rw [List.length_replicate])]; simp) | decide))) rfl ?_
  rintro e w41 ⟨rfl, hN⟩
  refine ⟨_, rfl, trivial, ?_⟩; clear hE a; intro a hE
  replace hM : Mem _ _ w41 [_, _, _, _, _, _, _, _, _, _, _, _, _, _, _, _, _] := hM.call0 hN trivial; clear hN
  refine g_yes hE rfl rfl ?_
  refine s_bin hE rfl rfl bin_eql rfl ?_; clear hE a; intro a hE
  refine s_pickt hE rfl rfl rfl ?_; clear hE a; intro a hE
  refine s_move hE rfl rfl ?_; clear hE a; intro a hE
  replace hE := hE.cast 91 rfl (show _ = Value.bool true from (congrArg Value.bool (decide_eq_true (by rw [pfN_M (show (List.replicate 64 (0 : UInt8)).length % 64 = 0 by rw [List.length_replicate]) (show (List.replicate 64 (0 : UInt8)).length % 64 = 0 by rw [List.length_replicate]), List.length_replicate]; rfl))))
  refine g_yes hE rfl rfl ?_
  refine s_move hE rfl rfl ?_; clear hE a; intro a hE
  refine g_yes hE rfl rfl ?_
  refine s_bin hE rfl rfl bin_eql rfl ?_; clear hE a; intro a hE
  refine s_pickt hE rfl rfl rfl ?_; clear hE a; intro a hE
  refine s_move hE rfl rfl ?_; clear hE a; intro a hE
  replace hE := hE.cast 95 rfl (show _ = Value.bool true from (congrArg Value.bool (decide_eq_true (by rw [pfM_A (show (List.replicate 64 (0 : UInt8)).length % 64 = 0 by rw [List.length_replicate]) (show (List.replicate 64 (0 : UInt8)).length % 64 = 0 by rw [List.length_replicate]), pfF_two (show ¬ (List.replicate 1 (0 : UInt8)).length % 64 = 0 by rw [List.length_replicate]; decide)]; rfl))))
  refine g_yes hE rfl rfl ?_
  refine s_move hE rfl rfl ?_; clear hE a; intro a hE
  refine g_yes hE rfl rfl ?_
  refine s_bin hE rfl rfl bin_eql rfl ?_; clear hE a; intro a hE
  refine s_pickt hE rfl rfl rfl ?_; clear hE a; intro a hE
  refine s_move hE rfl rfl ?_; clear hE a; intro a hE
  replace hE := hE.cast 99 rfl (show _ = Value.bool true from (congrArg Value.bool (decide_eq_true rfl)))
  refine g_yes hE rfl rfl ?_
  refine s_loadN hE rfl (hM.get 5 rfl) row30 rfl (by intro X h; cases h) rfl ?_; clear hE a; intro a hE
  refine g_yes hE rfl rfl ?_
  refine s_buildSlice (xs := [.const (.int .u8 97), .const (.int .u8 98), .const (.int .u8 99)]) (bv [97, 98, 99]) hE hM sl23 rfl rfl rfl (by intro v hv; first | (cases hv; done) | (obtain ⟨x, _, rfl⟩ := List.mem_map.1 (show v ∈ bv [97, 98, 99] from hv); rfl)) rfl rfl rfl rfl ?_; clear hE a; intro a v101 w42 hE hM'
  clear hM; have hM := hM'; clear hM'
  replace hM := hM.ownEq (m' := [97, 98, 99].length) (cs' := bv [97, 98, 99]) rfl rfl
  refine g_yes hE rfl rfl ?_
  refine s_convSame hE rfl hM Tryd.underlying23 Tryd.underlying5 (by have hl_ : [97, 98, 99].length = 3 := (by first | (simp; done) | (simp [*]; done) | (simp; omega)); first | omega | decide | (simp; done) | (simp; omega)) (by intro X h; cases h) rfl ?_; clear hE a; intro a w43 hE hM'; clear hM; have hM := hM'; clear hM'
  refine g_yes hE rfl rfl ?_
  obtain ⟨cq15, hq15⟩ := own_rd (hM.get 0 rfl)
  refine s_call hE rfl Tryd.call19 (psums_c none _ [97, 98, 99] _ _ (hM.get 15 rfl) hq15 trivial (by have hl_ : [97, 98, 99].length = 3 := (by first | (simp; done) | (simp [*]; done) | (simp; omega)); first | omega | (simp; done) | (simp; omega))) rfl ?_
  rintro e w44 ⟨rfl, hN⟩
  refine ⟨_, rfl, trivial, ?_⟩; clear hE a; intro a hE
  replace hM : Mem _ _ w44 [_, _, _, _, _, _, _, _, _, _, _, _, _, _, _, _, _, _] := hM.call0 hN trivial; clear hN
  refine g_yes hE rfl rfl ?_
  refine s_build (r := .agg (bv (List.replicate 32 (0 : UInt8))).toArray) _ hE rfl (fun w => by kernel_rfl) rfl ?_; clear hE a; intro a hE
  refine g_yes hE rfl rfl ?_
  refine s_bin hE rfl rfl (eqa35 (pfS_len ..) (by first | (simp; done) | (simp [*]; done) | (simp; omega))).1 rfl ?_; clear hE a; intro a hE
  refine s_pickt hE rfl rfl rfl ?_; clear hE a; intro a hE
  refine s_move hE rfl rfl ?_; clear hE a; intro a hE
  replace hE := hE.cast 107 rfl (show _ = Value.bool true from (congrArg Value.bool (decide_eq_true rfl)))
  refine g_yes hE rfl rfl ?_
  refine s_loadN hE rfl (hM.get 6 rfl) row30 rfl (by intro X h; cases h) rfl ?_; clear hE a; intro a hE
  refine g_yes hE rfl rfl ?_
  refine s_call hE rfl Tryd.call23 (psize_c none _ trivial) rfl ?_
  rintro e w45 ⟨rfl, hN⟩
  refine ⟨_, rfl, trivial, ?_⟩; clear hE a; intro a hE
  replace hM : Mem _ _ w45 [_, _, _, _, _, _, _, _, _, _, _, _, _, _, _, _, _, _] := hM.call0 hN trivial; clear hN
  refine g_yes hE rfl rfl ?_
  refine s_bin hE rfl rfl bin_eql rfl ?_; clear hE a; intro a hE
  refine s_pickt hE rfl rfl rfl ?_; clear hE a; intro a hE
  refine s_move hE rfl rfl ?_; clear hE a; intro a hE
  replace hE := hE.cast 112 rfl (show _ = Value.bool true from (congrArg Value.bool (decide_eq_true rfl)))
  refine g_yes hE rfl rfl ?_
  refine s_move hE rfl rfl ?_; clear hE a; intro a hE
  refine g_yes hE rfl rfl ?_
  refine s_not hE rfl rfl ?_; clear hE a; intro a hE
  refine s_pickt hE rfl rfl rfl ?_; clear hE a; intro a hE
  refine s_move hE rfl rfl ?_; clear hE a; intro a hE
  replace hE := hE.cast 116 rfl (show _ = Value.bool true from (congrArg Value.bool (by rw [ofT_no0 (by simp)]; rfl)))
  refine g_yes hE rfl rfl ?_
  refine s_move hE rfl rfl ?_; clear hE a; intro a hE
  refine g_yes hE rfl rfl ?_
  refine s_not hE rfl rfl ?_; clear hE a; intro a hE
  refine s_pickt hE rfl rfl rfl ?_; clear hE a; intro a hE
  refine s_move hE rfl rfl ?_; clear hE a; intro a hE
  replace hE := hE.cast 120 rfl (show _ = Value.bool true from (congrArg Value.bool (by rw [ofT_noR (fun h => h 0 (by decide) (by decide))]; rfl)))
  refine g_yes hE rfl rfl ?_
  refine s_move hE rfl rfl ?_; clear hE a; intro a hE
  refine g_yes hE rfl rfl ?_
  refine s_not hE rfl rfl ?_; clear hE a; intro a hE
  refine s_pickt hE rfl rfl rfl ?_; clear hE a; intro a hE
  refine s_move hE rfl rfl ?_; clear hE a; intro a hE
  replace hE := hE.cast 124 rfl (show _ = Value.bool true from (congrArg Value.bool (by rw [ofT_noR (fun h => h 0 (by decide) (by decide))]; rfl)))
  refine g_yes hE rfl rfl ?_
  refine s_move hE rfl rfl ?_; clear hE a; intro a hE
  refine g_yes hE rfl rfl ?_
  refine s_not hE rfl rfl ?_; clear hE a; intro a hE
  refine s_pickt hE rfl rfl rfl ?_; clear hE a; intro a hE
  refine s_move hE rfl rfl ?_; clear hE a; intro a hE
  replace hE := hE.cast 128 rfl (show _ = Value.bool true from (congrArg Value.bool (by rw [ofT_no0 (by decide)]; rfl)))
  refine g_yes hE rfl rfl ?_
  refine s_call hE rfl Tryd.call17 (awake3_c  _ (hM.get 15 rfl) (hM.get 16 rfl)) rfl ?_
  rintro e w46 ⟨rfl, hN⟩
  refine ⟨_, rfl, trivial, ?_⟩; clear hE a; intro a hE
  replace hM : Mem _ _ w46 [_, _, _, _, _, _, _, _, _, _, _, _, _, _, _, _, _, _] := hM.call0 hN trivial; clear hN
  refine s_pickt hE rfl rfl rfl ?_; clear hE a; intro a hE
  refine s_assign hE rfl rfl ?_; clear hE a; intro a hE
  refine q_nil ?_
  replace hE : Env a 131 [(0, _), (3, _), (5, _), (9, _), (25, _)] := hE.sel [0, 3, 5, 9, 25] rfl
  refine hK12 _ _ ?_
  refine wp_ret ?_
  refine f_ret1 hE rfl rfl ?_
  exact ⟨(by first | rfl | (simp; done)), hM.pick [] rfl⟩
set_option maxRecDepth 100000 in
theorem shaKnown_lifted (os : Os) (started : os.Started) (H : Type) (enc : TypeId × Value → H) :
    ReturnsInHanded {} Tryd.checked os 8 .any (fun w args => (Rows.shaKnownSpec.pre enc Tryd.prog Tryd.f8 [] false w args ∧ laidMetH Tryd.prog Rows.shaKnownRow.laid w) ∧ sizedMet enc Tryd.prog Tryd.f8 (OpenSpec.ofChange Rows.shaKnownSpec) false w args) (Rows.shaKnownSpec.post enc Tryd.prog Tryd.f8 false true false false) := by
  refine law_liftedL (C := Tryd.checked) (fn := Tryd.f8) (l := Rows.shaKnownRow.laid) (by kernel_rfl) started (by kernel_rfl) Tryd.func8 rfl (fun ds hl => ?_) rfl Tryd.underlying4 (by kernel_rfl) (of_decide_eq_true (by kernel_rfl)) (by kernel_rfl)
    (ChangeSpec.witness_shaped (enc := enc) (C := Tryd.checked) (os := os) (X := fun w _ => laidMetH Tryd.prog Rows.shaKnownRow.laid w) false (World.laidAll Tryd.prog os Rows.shaKnownRow.laid) #[] 8 (World.laidAll_os _ _ _) (World.shaped_of_ZipB (by kernel_rfl) (by kernel_rfl)) (by kernel_rfl) (by kernel_rfl) (by kernel_rfl) (by rw [MakeChecks.laidMetH_plain _ _ _ (by kernel_rfl)]; exact laidMet_laidAll _ (by kernel_rfl) (by kernel_rfl))) ?_
  · rw [Tryd.params8] at hl
    match ds, hl with
    | [], _ => rfl
  · intro W base args ds ps hval hA hw hL
    have hG := glb_of_laid (P := Tryd.prog) (g := 0) (t := 91) (e := 26) (by kernel_rfl) (by kernel_rfl) Tryd.underlying91 Tryd.underlying26 (by kernel_rfl) (by kernel_rfl) (by kernel_rfl) (show laidMet Tryd.prog (_ :: _) W from (laidMet_tail (laidMet_tail (laidMet_tail (laidMet_tail (laidMet_tail hL))))))
    have hQ : tabQ.holds W := cells_of_laid (P := Tryd.prog) (g := 5) (t := 22) (e := 5) (n := 64) (by kernel_rfl) (by kernel_rfl) Tryd.underlying22 Tryd.underlying5 (by kernel_rfl) (by kernel_rfl) (by kernel_rfl) (show laidMet Tryd.prog (_ :: _) W from (laidMet_tail hL))
    have hS : errS.holds W := err_of_laid (P := Tryd.prog) (g := 1) (ti := 71) (tp := 124) (te := 126) (ts := 9) (show laidMet Tryd.prog (_ :: _) W from (laidMet_tail (laidMet_tail (laidMet_tail (laidMet_tail hL))))) (by kernel_rfl) (by kernel_rfl) Tryd.underlying71 (fun u hu => typeName_ptr_named (nm := "errors.errorString") (by rw [show "*" ++ "errors.errorString" = "*errors.errorString" by decide]; kernel_rfl) (by kernel_rfl) (by decide) u (by rw [show "*" ++ "errors.errorString" = "*errors.errorString" by decide]; exact hu)) Tryd.underlying124 Tryd.underlying126 rfl rfl Tryd.underlying9 (by kernel_rfl) (by kernel_rfl)
    rw [Tryd.params8] at hA hval hw
    obtain ⟨hargs, rfl, rfl⟩ := trodAll_nil hA
    obtain rfl : args = #[] := by cases args; simp_all
    exact shaKnown_c W hG hQ hS

/-- The row's statement. -/
theorem shaKnown_row : Rows.ShaKnownSaid :=
  OpenClaim.holds_of_wide 8 Tryd.f8 rfl rfl rfl rfl rfl rfl rfl ⟨rfl, rfl, rfl, rfl, rfl⟩ rfl rfl rfl rfl rfl (by kernel_rfl) Tryd.func8 (by kernel_rfl)
    (of_decide_eq_true (by kernel_rfl)) (by unfold Func.isWrapper; first | (rw [if_pos (by decide +kernel)]; kernel_rfl) | (rw [if_neg (by decide +kernel)]; exact ⟨rfl, rfl⟩))
    (fun os started H enc _ => shaKnown_lifted os started H enc)

/-- The statement: the row, its listed variable tied to the program's text. -/
theorem shaKnown_holds : Rows.ShaKnownCardSaid :=
  Claim7.holds_tied_plain_at .later [] [.data, .data, .data, .sentinel, .sentinel, .data] true (true, "91cb5901f707df670105d5a20baa4ed90d479b7ccd219857a5a06152428abcb6") true
    shaKnown_row (fun _ h => by cases h) (by kernel_rfl) (fun _ h => by cases h) shaKnown_row_tie rfl ⟨rfl, rfl⟩ (by kernel_rfl) rfl
    (fun f fn hf hfn => by
      obtain rfl : f = 8 := Option.some.inj ((show Tryd.prog.funcNamed "casemate/casematelaw03.ShaKnown" = some 8 by kernel_rfl).symm.trans hf) |>.symm
      obtain rfl : fn = Tryd.f8 := (Option.some.inj (Tryd.func8.symm.trans hfn)).symm
      exact ⟨by kernel_rfl, fun j t ht => by
        rw [Tryd.params8] at ht
        simp at ht⟩)
    (by kernel_rfl)
#print axioms shaKnown_holds
end Go.Proofs.YtbjdbiljkkfklaaDoor
