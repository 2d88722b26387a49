/- CellPlays of casematelaw12 returns true for whatever start and acts; they read behind the call as before. No condition. -/
import Derived.Test.YtafokhpokeipkaaLc
namespace Go.Proofs.Ytafokhpokeipkaa
open Go Go.Kx
open Go.ChangeShapes Go.WideShapes Go.ChangeAt Go.RowKit
theorem zero53 : Zero Try.prog 53 [[.int .u64 0], bv (List.replicate 32 0), [.slice none 0 0]] := ⟨.agg ([[.int .u64 0], bv (List.replicate 32 0), [.slice none 0 0]] : List (List Value)).flatten.toArray, by kernel_rfl, by kernel_rfl⟩
theorem fpl53 : fldPl Try.prog 53 = some (plc 0 [1, 32, 1]) := by kernel_rfl
theorem fo53_0 : fieldOff Try.prog 53 0 = some 0 := by kernel_rfl
theorem fo53_1 : fieldOff Try.prog 53 1 = some 1 := by kernel_rfl
theorem sz22 : (Try.prog.info? 22).map (·.size) = some 1 := by kernel_rfl
theorem sz24 : (Try.prog.info? 24).map (·.size) = some 32 := by kernel_rfl
theorem fo53_2 : fieldOff Try.prog 53 2 = some 33 := by kernel_rfl
theorem slt40 : slT Try.prog 40 = some 33 := by kernel_rfl
theorem fo47_0 : fieldOff Try.prog 47 0 = some 0 := by kernel_rfl
theorem one3 : OneT Try.prog 3 := OneT.of Try.underlying3 rfl (by kernel_rfl)
theorem fo47_1 : fieldOff Try.prog 47 1 = some 1 := by kernel_rfl
theorem rnew_ok (c0 : Cl) (w : World) (h0 : OkCl c0) (hm : c0.1 ≤ 4611686018427387904) : Calls Try.prog 12 #[.agg (cl c0).toArray] w fun e w' => ∃ p v, e = .returned (.tuple #[.pointer (some ⟨p, 0, none⟩), .int .i64 0]) ∧ Mem w [] w' [blk p [[.int .u64 ((lst ([c0])).1 : Int)], bv (lst ([c0])).2, [v]] [1, 32, 1] 53, own v 33 1 (cls [c0])] := by
  have hM := Mem.start0 w
  refine f_enter 15 Try.func12 rfl rfl rfl ?_
  intro a hE
  replace hE : Env a 15 [(0, _)] := hE
  refine wp_seq_k (fun K1 hK1 => ?_)
  refine wp_plain [false, true, true] rfl rfl ?_
  refine s_box (ss := [[.int .u64 (c0.1 : Int)], bv c0.2]) [1, 32] hE hM rfl (by simp [cl, Value.cells]) (by simp [h0.1]) rfl ?_; clear hE a; intro a b1 w1 hE hM'
  clear hM; have hM := hM'; clear hM'
  refine s_assign hE rfl rfl ?_; clear hE a; intro a hE
  refine s_assign hE rfl rfl ?_; clear hE a; intro a hE
  refine q_nil ?_
  replace hE : Env a 15 [(1, _), (2, _), (3, _)] := hE.sel [1, 2, 3] rfl
  refine hK1 _ _ ?_
  refine wp_seq_k (fun K2 hK2 => ?_)
  refine wp_seq_k (fun K3 hK3 => ?_)
  refine wp_plain [true, true, true] rfl rfl ?_
  refine s_fieldAddr hE rfl fo26_0 rfl ?_; clear hE a; intro a hE
  refine s_load1 hE rfl (hM.get 0 rfl) rfl one22 (by intro X h; cases h) rfl ?_; clear hE a; intro a hE
  refine s_bin hE rfl rfl bin_gtr rfl ?_; clear hE a; intro a hE
  refine q_nil ?_
  replace hE : Env a 15 [(1, _), (2, _), (3, _), (6, _)] := hE.sel [1, 2, 3, 6] rfl
  refine hK3 _ _ ?_
  replace hE := hE.cast 6 rfl (show _ = Value.bool false from (congrArg Value.bool (decide_eq_false (by omega))))
  refine wp_cond_false (hE.eval rfl) ?_
  refine wp_skip ?_
  refine hK2 _ _ ?_
  refine wp_seq_k (fun K4 hK4 => ?_)
  refine wp_plain [true, true, true, true, true, false, true, false, true, true] rfl rfl ?_
  refine s_fieldAddr hE rfl fo26_0 rfl ?_; clear hE a; intro a hE
  refine s_load1 hE rfl (hM.get 0 rfl) rfl one22 (by intro X h; cases h) rfl ?_; clear hE a; intro a hE
  refine s_fieldAddr hE rfl fo26_1 rfl ?_; clear hE a; intro a hE
  refine s_loadN hE rfl (hM.get 0 rfl) row24 rfl (by intro X h; cases h) rfl ?_; clear hE a; intro a hE
  refine s_loadN (cs := cl c0) hE rfl (hM.get 0 rfl) row26 rfl (by intro X h; cases h) rfl ?_; clear hE a; intro a hE
  refine s_buildSlice (xs := [.tmp 11]) (cl c0) hE hM sl37 rfl rfl rfl (by intro v hv; rw [List.mem_singleton.1 hv]; show (cl c0).toArray.size = 33; simp [cl_len h0]) (by simp [Value.cells]) rfl rfl rfl ?_; clear hE a; intro a v12 w2 hE hM'
  clear hM; have hM := hM'; clear hM'
  have hv12 := own_one (hM.get 0 rfl)
  refine s_buildS [[.int .u64 (c0.1 : Int)], bv c0.2, [v12]] hE rfl zero53 rfl fpl53 ⟨rfl, rfl, rfl, (by simp [h0.1]), hv12.1, rfl, trivial⟩ rfl ?_; clear hE a; intro a hE
  refine s_box (ss := [[.int .u64 (c0.1 : Int)], bv c0.2, [v12]]) [1, 32, 1] hE hM rfl rfl (by simp [h0.1]) rfl ?_; clear hE a; intro a b14 w3 hE hM'
  clear hM; have hM := hM'; clear hM'
  refine s_assign hE rfl rfl ?_; clear hE a; intro a hE
  refine s_assign hE rfl rfl ?_; clear hE a; intro a hE
  refine q_nil ?_
  replace hE : Env a 15 [(1, _), (2, _), (3, _), (6, _)] := hE.sel [1, 2, 3, 6] rfl
  refine hK4 _ _ ?_
  refine wp_ret ?_
  refine f_ret2 hE rfl rfl rfl ?_
  refine ⟨_, v12, rfl, ?_⟩
  rw [show cls [c0] = cl c0 from by simp [cls]]
  exact hM.pick [0, 1] rfl
theorem rnew_bad (c0 : Cl) (w : World) (h0 : OkCl c0) (hm : 4611686018427387904 < c0.1) : Calls Try.prog 12 #[.agg (cl c0).toArray] w fun e w' => e = .returned (.tuple #[.pointer none, .int .i64 2]) ∧ Mem w [] w' [] := by
  have hM := Mem.start0 w
  refine f_enter 15 Try.func12 rfl rfl rfl ?_
  intro a hE
  replace hE : Env a 15 [(0, _)] := hE
  refine wp_seq_k (fun K1 hK1 => ?_)
  refine wp_plain [false, true, true] rfl rfl ?_
  refine s_box (ss := [[.int .u64 (c0.1 : Int)], bv c0.2]) [1, 32] hE hM rfl (by simp [cl, Value.cells]) (by simp [h0.1]) rfl ?_; clear hE a; intro a b1 w1 hE hM'
  clear hM; have hM := hM'; clear hM'
  refine s_assign hE rfl rfl ?_; clear hE a; intro a hE
  refine s_assign hE rfl rfl ?_; clear hE a; intro a hE
  refine q_nil ?_
  replace hE : Env a 15 [(1, _), (2, _), (3, _)] := hE.sel [1, 2, 3] rfl
  refine hK1 _ _ ?_
  refine wp_seq_k (fun K2 hK2 => ?_)
  refine wp_seq_k (fun K3 hK3 => ?_)
  refine wp_plain [true, true, true] rfl rfl ?_
  refine s_fieldAddr hE rfl fo26_0 rfl ?_; clear hE a; intro a hE
  refine s_load1 hE rfl (hM.get 0 rfl) rfl one22 (by intro X h; cases h) rfl ?_; clear hE a; intro a hE
  refine s_bin hE rfl rfl bin_gtr rfl ?_; clear hE a; intro a hE
  refine q_nil ?_
  replace hE : Env a 15 [(1, _), (2, _), (3, _), (6, _)] := hE.sel [1, 2, 3, 6] rfl
  refine hK3 _ _ ?_
  replace hE := hE.cast 6 rfl (show _ = Value.bool true from (congrArg Value.bool (decide_eq_true (by omega))))
  refine wp_cond_true (hE.eval rfl) ?_
  refine wp_seq_k (fun K4 hK4 => ?_)
  refine wp_plain [true, true] rfl rfl ?_
  refine s_assign hE rfl rfl ?_; clear hE a; intro a hE
  refine s_assign hE rfl rfl ?_; clear hE a; intro a hE
  refine q_nil ?_
  refine hK4 _ _ ?_
  refine wp_ret ?_
  refine q_then_r ?_
  refine f_ret2 hE rfl rfl rfl ?_
  exact ⟨rfl, hM.nil⟩
theorem rread_c (p c : Nat) (lab : List UInt8) (lv : Value) (w : World) (hB : (blk p [[.int .u64 (c : Int)], bv lab, [lv]] [1, 32, 1] 53).holds w) (hlab : lab.length = 32) : Calls Try.prog 16 #[.pointer (some ⟨p, 0, none⟩)] w fun e w' => e = .returned (.agg (cl (c, lab)).toArray) ∧ Mem w [] w' [] := by
  have hM := Mem.startR1 (e := blkR p [[.int .u64 (c : Int)], bv lab, [lv]] [1, 32, 1] 53) hB rfl
  refine f_enter 12 Try.func16 rfl rfl rfl ?_
  intro a hE
  replace hE : Env a 12 [(0, _)] := hE
  refine wp_seq_k (fun K1 hK1 => ?_)
  refine wp_plain [false] rfl rfl ?_
  refine s_alloc [1, 32] hE hM zero26 rfl rfl ?_; clear hE a; intro a b2 w1 hE hM'
  clear hM; have hM := hM'; clear hM'
  refine q_nil ?_
  refine hK1 _ _ ?_
  refine wp_seq_k (fun K2 hK2 => ?_)
  refine wp_drawnM2 hM (by kernel_rfl) (fun b => b = b2) (fun _ => True) [(0, true), (1, true), (2, true), (3, true), (4, true), (5, true), (6, true), (7, true), (8, true)] [(9, false)] [(9, []), (1, [(2, 1), (3, 2), (8, 3), (9, 1)]), (2, [(3, 2), (8, 3), (9, 2)]), (3, [(8, 3), (9, 3)]), (5, [(6, 5), (7, 6), (8, 7), (9, 5)]), (6, [(7, 6), (8, 7), (9, 6)]), (7, [(8, 7), (9, 7)]), (8, [(9, 8)])] (by kernel_rfl) (by kernel_rfl) rfl rfl ?_
  intro w2 hM' hww2; clear hM; have hM := hM'; clear hM'
  refine s_move hE rfl rfl ?_; clear hE a; intro a hE
  refine s_nilCheck hE rfl rfl ?_; clear hE a; intro a hE
  refine s_fieldAddr hE rfl fo53_0 rfl ?_; clear hE a; intro a hE
  refine s_load1 hE rfl (blkR_blk (hM.get 1 rfl)) rfl one22 (by intro X h; cases h; intro hx; exact hM.notX 0 1 rfl rfl (by decide) p (by rw [hx]; exact .head _) (.head _)) rfl ?_; clear hE a; intro a hE
  refine s_move hE rfl rfl ?_; clear hE a; intro a hE
  refine s_nilCheck hE rfl rfl ?_; clear hE a; intro a hE
  refine s_fieldAddr hE rfl fo53_1 rfl ?_; clear hE a; intro a hE
  refine s_loadN hE rfl (blkR_blk (hM.get 1 rfl)) row24 rfl (by intro X h; cases h; intro hx; exact hM.notX 0 1 rfl rfl (by decide) p (by rw [hx]; exact .head _) (.head _)) rfl ?_; clear hE a; intro a hE
  refine s_buildS [[.int .u64 (c : Int)], bv lab] hE rfl zero26 rfl fpl26 ⟨rfl, rfl, rfl, (by simp [hlab]), trivial⟩ rfl ?_; clear hE a; intro a hE
  refine q_nil (q_ph ?_)
  refine s_storeSegs 0 2 (vss := [[.int .u64 (c : Int)], bv lab]) hE rfl rfl hM rfl sz26 (by simp [hlab]) (by decide) rfl (one_fl ⟨one1 rfl, bv_one _, trivial⟩) rfl (by intro X h; cases h; first | (simp; done) | simp [valBlocks]) ?_; intro w3 hM'; clear hM; have hM := hM'; clear hM'
  simp only [List.take_zero, List.take_succ_cons, List.drop_zero, List.drop_succ_cons, List.take_nil, List.drop_nil, List.nil_append, List.append_nil, List.cons_append] at hM
  refine q_nil ?_
  replace hE : Env a 12 [(2, _)] := hE.sel [2] rfl
  refine hK2 _ _ ?_
  refine wp_ret ?_
  refine f_ret1 hE rfl (res_cellN rfl (hM.get 0 rfl) row26 rfl) ?_
  exact ⟨by first | rfl | simp [cl], hM.nil⟩
theorem radv_lt (p : Nat) (v : Value) (hs : List Cl) (lab : List UInt8) (w : World) (hB : (blk p [[.int .u64 ((lst (hs)).1 : Int)], bv (lst (hs)).2, [v]] [1, 32, 1] 53).holds w) (hr : (own v 33 hs.length (cls hs)).holds w) (hne : p ∉ valBlocks v) (hl : hs.length ≤ 100000) (hl32 : (lst hs).2.length = 32) (hlab : lab.length = 32) (hm : (lst hs).1 < mostC) : Calls Try.prog 15 #[.pointer (some ⟨p, 0, none⟩), .agg (bv lab).toArray] w fun e w' => ∃ v', e = .returned (.tuple #[.int .u64 (advN hs : Int), .int .i64 (advE hs : Int)]) ∧ Mem w (p :: valBlocks v) w' [blk p [[.int .u64 ((lst (advL hs lab)).1 : Int)], bv (lst (advL hs lab)).2, [v']] [1, 32, 1] 53, own v' 33 (advL hs lab).length (cls (advL hs lab))] := by
  have hM := Mem.startBO hB hr hne
  have eM : mostC = 4611686018427387904 := rfl
  rw [advN_lt hm, show advE hs = 0 from by simp [advE, hm]]; simp only [lst_lt hm]; simp only [show advL hs lab = hs ++ [((lst hs).1 + 1, lab)] from by simp [advL, hm]]
  refine f_enter 38 Try.func15 rfl rfl rfl ?_
  intro a hE
  replace hE : Env a 38 [(0, _), (1, _)] := hE
  refine wp_seq_k (fun K1 hK1 => ?_)
  refine wp_plain [false, true, true] rfl rfl ?_
  refine s_box (ss := [bv lab]) [32] hE hM rfl (by simp [Value.cells]) (by simp [hlab]) rfl ?_; clear hE a; intro a b3 w1 hE hM'
  clear hM; have hM := hM'; clear hM'
  refine s_assign hE rfl rfl ?_; clear hE a; intro a hE
  refine s_assign hE rfl rfl ?_; clear hE a; intro a hE
  refine q_nil ?_
  replace hE : Env a 38 [(0, _), (3, _), (4, _), (5, _)] := hE.sel [0, 3, 4, 5] rfl
  refine hK1 _ _ ?_
  refine wp_seq_k (fun K2 hK2 => ?_)
  refine wp_seq_k (fun K3 hK3 => ?_)
  refine wp_plain [true, true, true, true, true] rfl rfl ?_
  refine s_move hE rfl rfl ?_; clear hE a; intro a hE
  refine s_nilCheck hE rfl rfl ?_; clear hE a; intro a hE
  refine s_fieldAddr hE rfl fo53_0 rfl ?_; clear hE a; intro a hE
  refine s_load1 hE rfl (hM.get 1 rfl) rfl one22 (by intro X h; cases h) rfl ?_; clear hE a; intro a hE
  refine s_bin hE rfl rfl bin_eql rfl ?_; clear hE a; intro a hE
  refine q_nil ?_
  replace hE : Env a 38 [(0, _), (3, _), (4, _), (5, _), (10, _)] := hE.sel [0, 3, 4, 5, 10] rfl
  refine hK3 _ _ ?_
  replace hE := hE.cast 10 rfl (show _ = Value.bool false from (congrArg Value.bool (decide_eq_false (by omega))))
  refine wp_cond_false (hE.eval rfl) ?_
  refine wp_skip ?_
  refine hK2 _ _ ?_
  refine wp_seq_k (fun K4 hK4 => ?_)
  refine wp_plain [true, true, true, true, true, true, true, true, false] rfl rfl ?_
  refine s_move hE rfl rfl ?_; clear hE a; intro a hE
  refine s_move hE rfl rfl ?_; clear hE a; intro a hE
  refine s_nilCheck hE rfl rfl ?_; clear hE a; intro a hE
  refine s_fieldAddr hE rfl fo53_0 rfl ?_; clear hE a; intro a hE
  refine s_load1 hE rfl (hM.get 1 rfl) rfl one22 (by intro X h; cases h) rfl ?_; clear hE a; intro a hE
  refine s_bin hE rfl rfl (show Bin _ _ _ _ _ (.int .u64 (((lst hs).1 + 1 : Nat) : Int)) from bin_add (by rw [wrap_u64 (by omega) (by omega)]; omega)) rfl ?_; clear hE a; intro a hE
  refine s_nilCheck hE rfl rfl ?_; clear hE a; intro a hE
  refine s_fieldAddr hE rfl fo53_0 rfl ?_; clear hE a; intro a hE
  replace hM : Mem _ _ w1 [_, _, _] := hM.pick [1, 0, 2] rfl
  refine s_store1 0 hE rfl rfl hM rfl rfl sz22 rfl rfl (by intro X h; cases h) ?_; intro w2 hM'; clear hM; have hM := hM'; clear hM'
  refine q_nil ?_
  replace hE : Env a 38 [(0, _), (3, _), (4, _), (5, _), (10, _)] := hE.sel [0, 3, 4, 5, 10] rfl
  refine hK4 _ _ ?_
  refine wp_seq_k (fun K5 hK5 => ?_)
  refine wp_plain [true, true, true, true, false] rfl rfl ?_
  refine s_move hE rfl rfl ?_; clear hE a; intro a hE
  refine s_loadN hE rfl (hM.get 1 rfl) row24 rfl (by intro X h; cases h) rfl ?_; clear hE a; intro a hE
  refine s_nilCheck hE rfl rfl ?_; clear hE a; intro a hE
  refine s_fieldAddr hE rfl fo53_1 rfl ?_; clear hE a; intro a hE
  refine s_storeSeg 1 hE rfl rfl hM rfl sz24 (by simpa using hlab) (bv_one _) rfl (by simpa using hl32) rfl (by intro X h; cases h) ?_; intro w3 hM'; clear hM; have hM := hM'; clear hM'
  simp only [List.set_cons_zero, List.set_cons_succ] at hM
  refine q_nil ?_
  replace hE : Env a 38 [(0, _), (4, _), (5, _), (10, _)] := hE.sel [0, 4, 5, 10] rfl
  refine hK5 _ _ ?_
  refine wp_seq_k (fun K6 hK6 => ?_)
  refine wp_drawnM2 hM (by kernel_rfl) (fun _ => False) (fun _ => True) [(0, true), (1, true), (2, true), (3, true), (4, true), (5, true), (6, false), (7, false)] [(8, false), (9, true), (10, true), (11, false)] [(6, [(7, 6), (8, 6), (9, 6), (10, 6), (11, 6)]), (7, [(8, 7), (9, 7), (10, 7), (11, 7)]), (8, [(9, 8), (10, 8), (11, 8)]), (11, []), (2, [(3, 2), (4, 3), (8, 4), (9, 2), (10, 2), (11, 2)]), (3, [(4, 3), (8, 4), (9, 3), (10, 3), (11, 3)]), (4, [(8, 4), (9, 4), (10, 4), (11, 4)])] (by kernel_rfl) (by kernel_rfl) rfl rfl ?_
  intro w4 hM' hww4; clear hM; have hM := hM'; clear hM'
  refine s_move hE rfl rfl ?_; clear hE a; intro a hE
  refine s_move hE rfl rfl ?_; clear hE a; intro a hE
  refine s_nilCheck hE rfl rfl ?_; clear hE a; intro a hE
  refine s_fieldAddr hE rfl fo53_2 rfl ?_; clear hE a; intro a hE
  refine s_load1 hE rfl (hM.get 0 rfl) rfl one37 (by intro X h; cases h; simp) rfl ?_; clear hE a; intro a hE
  refine s_move hE rfl rfl ?_; clear hE a; intro a hE
  refine s_call hE rfl Try.call16 (rread_c p ((lst hs).1 + 1) lab v _ (hM.get 0 rfl) hlab) rfl ?_
  rintro e w5 ⟨rfl, hN⟩
  refine ⟨_, rfl, hN.sta0 _, ?_⟩; clear hE a; intro a hE
  replace hM : Mem _ _ w5 [_, _, _] := hM.call0 hN trivial; clear hN
  refine s_buildSlice (xs := [.tmp 29]) (cl ((lst hs).1 + 1, lab)) hE hM sl37 rfl rfl rfl (by intro v hv; rw [List.mem_singleton.1 hv]; show (cl ((lst hs).1 + 1, lab)).toArray.size = 33; simp [cl, hlab]) (by simp [Value.cells]) rfl rfl rfl ?_; clear hE a; intro a v30 w6 hE hM'
  clear hM; have hM := hM'; clear hM'
  refine q_nil (q_ph ?_)
  replace hM : Mem _ _ w6 [_, _, _, _] := hM.pick [3, 0, 1, 2] rfl
  obtain ⟨cy, hy⟩ := own_rd (hM.get 1 rfl)
  refine s_append hE rfl rfl hM sl37 (Src.rd Try.underlying37 hy (cl_one _)) (len47 (by omega)) (by omega) (by intro X h; cases h; first | (simp; done) | simp [valBlocks]) rfl ?_; clear hE a hy; intro a v31 w7 hE hM'
  clear hM; have hM := hM'; clear hM'
  replace hM := hM.ownEq (m' := (hs ++ [((lst hs).1 + 1, lab)]).length) (cs' := cls (hs ++ [((lst hs).1 + 1, lab)])) (by simp) (cls_snoc _ _)
  refine s_nilCheck hE rfl rfl ?_; clear hE a; intro a hE
  refine s_fieldAddr hE rfl fo53_2 rfl ?_; clear hE a; intro a hE
  replace hM : Mem _ _ w7 [_, _, _, _] := hM.pick [2, 0, 1, 3] rfl
  refine s_store1 2 hE rfl rfl hM (own_one (hM.get 1 rfl)).1 (own_one (hM.get 1 rfl)).2 sz37 rfl rfl (by intro X h; cases h; first | (simp; done) | simp [valBlocks]) ?_; intro w8 hM'; clear hM; have hM := hM'; clear hM'
  refine q_nil ?_
  replace hE : Env a 38 [(0, _), (4, _), (5, _), (10, _)] := hE.sel [0, 4, 5, 10] rfl
  refine hK6 _ _ ?_
  refine wp_seq_k (fun K7 hK7 => ?_)
  refine wp_plain [true, true, true, true, true, true] rfl rfl ?_
  refine s_move hE rfl rfl ?_; clear hE a; intro a hE
  refine s_nilCheck hE rfl rfl ?_; clear hE a; intro a hE
  refine s_fieldAddr hE rfl fo53_0 rfl ?_; clear hE a; intro a hE
  refine s_load1 hE rfl (hM.get 0 rfl) rfl one22 (by intro X h; cases h) rfl ?_; clear hE a; intro a hE
  refine s_assign hE rfl rfl ?_; clear hE a; intro a hE
  refine s_assign hE rfl rfl ?_; clear hE a; intro a hE
  refine q_nil ?_
  replace hE : Env a 38 [(0, _), (4, _), (5, _), (10, _)] := hE.sel [0, 4, 5, 10] rfl
  refine hK7 _ _ ?_
  refine wp_ret ?_
  refine f_ret2 hE rfl rfl rfl ?_
  exact ⟨v31, rfl, hM.pick [0, 1] rfl⟩
theorem radv_top (p : Nat) (v : Value) (hs : List Cl) (lab : List UInt8) (w : World) (hB : (blk p [[.int .u64 ((lst (hs)).1 : Int)], bv (lst (hs)).2, [v]] [1, 32, 1] 53).holds w) (hr : (own v 33 hs.length (cls hs)).holds w) (hne : p ∉ valBlocks v) (hl : hs.length ≤ 100000) (hl32 : (lst hs).2.length = 32) (hlab : lab.length = 32) (hm : (lst hs).1 = mostC) : Calls Try.prog 15 #[.pointer (some ⟨p, 0, none⟩), .agg (bv lab).toArray] w fun e w' => ∃ v', e = .returned (.tuple #[.int .u64 (advN hs : Int), .int .i64 (advE hs : Int)]) ∧ Mem w (p :: valBlocks v) w' [blk p [[.int .u64 ((lst (advL hs lab)).1 : Int)], bv (lst (advL hs lab)).2, [v']] [1, 32, 1] 53, own v' 33 (advL hs lab).length (cls (advL hs lab))] := by
  have hM := Mem.startBO hB hr hne
  have eM : mostC = 4611686018427387904 := rfl
  have hge : ¬ (lst hs).1 < mostC := by omega
  rw [advN_ge hge, advE_ge hge]; simp only [advL_ge hge]
  refine f_enter 38 Try.func15 rfl rfl rfl ?_
  intro a hE
  replace hE : Env a 38 [(0, _), (1, _)] := hE
  refine wp_seq_k (fun K1 hK1 => ?_)
  refine wp_plain [false, true, true] rfl rfl ?_
  refine s_box (ss := [bv lab]) [32] hE hM rfl (by simp [Value.cells]) (by simp [hlab]) rfl ?_; clear hE a; intro a b3 w1 hE hM'
  clear hM; have hM := hM'; clear hM'
  refine s_assign hE rfl rfl ?_; clear hE a; intro a hE
  refine s_assign hE rfl rfl ?_; clear hE a; intro a hE
  refine q_nil ?_
  replace hE : Env a 38 [(0, _), (3, _), (4, _), (5, _)] := hE.sel [0, 3, 4, 5] rfl
  refine hK1 _ _ ?_
  refine wp_seq_k (fun K2 hK2 => ?_)
  refine wp_seq_k (fun K3 hK3 => ?_)
  refine wp_plain [true, true, true, true, true] rfl rfl ?_
  refine s_move hE rfl rfl ?_; clear hE a; intro a hE
  refine s_nilCheck hE rfl rfl ?_; clear hE a; intro a hE
  refine s_fieldAddr hE rfl fo53_0 rfl ?_; clear hE a; intro a hE
  refine s_load1 hE rfl (hM.get 1 rfl) rfl one22 (by intro X h; cases h) rfl ?_; clear hE a; intro a hE
  refine s_bin hE rfl rfl bin_eql rfl ?_; clear hE a; intro a hE
  refine q_nil ?_
  replace hE : Env a 38 [(0, _), (3, _), (4, _), (5, _), (10, _)] := hE.sel [0, 3, 4, 5, 10] rfl
  refine hK3 _ _ ?_
  replace hE := hE.cast 10 rfl (show _ = Value.bool true from (congrArg Value.bool (decide_eq_true (by omega))))
  refine wp_cond_true (hE.eval rfl) ?_
  refine wp_seq_k (fun K4 hK4 => ?_)
  refine wp_plain [true, true] rfl rfl ?_
  refine s_assign hE rfl rfl ?_; clear hE a; intro a hE
  refine s_assign hE rfl rfl ?_; clear hE a; intro a hE
  refine q_nil ?_
  refine hK4 _ _ ?_
  refine wp_ret ?_
  refine q_then_r ?_
  refine f_ret2 hE rfl rfl rfl ?_
  exact ⟨v, rfl, hM.pick [1, 2] rfl⟩
theorem radv_c (p : Nat) (v : Value) (hs : List Cl) (lab : List UInt8) (w : World) (hB : (blk p [[.int .u64 ((lst (hs)).1 : Int)], bv (lst (hs)).2, [v]] [1, 32, 1] 53).holds w) (hr : (own v 33 hs.length (cls hs)).holds w) (hne : p ∉ valBlocks v) (hl : hs.length ≤ 100000) (hl32 : (lst hs).2.length = 32) (hlab : lab.length = 32) (hm : (lst hs).1 ≤ mostC) : Calls Try.prog 15 #[.pointer (some ⟨p, 0, none⟩), .agg (bv lab).toArray] w fun e w' => ∃ v', e = .returned (.tuple #[.int .u64 (advN hs : Int), .int .i64 (advE hs : Int)]) ∧ Mem w (p :: valBlocks v) w' [blk p [[.int .u64 ((lst (advL hs lab)).1 : Int)], bv (lst (advL hs lab)).2, [v']] [1, 32, 1] 53, own v' 33 (advL hs lab).length (cls (advL hs lab))] := by
  rcases Nat.lt_or_ge (lst hs).1 mostC with h | h
  · exact radv_lt p v hs lab w hB hr hne hl hl32 hlab h
  · exact radv_top p v hs lab w hB hr hne hl hl32 hlab (by omega)
theorem rcopy_c (p : Nat) (v : Value) (hs : List Cl) (c : Nat) (w : World) (hB : (blk p [[.int .u64 ((lst (hs)).1 : Int)], bv (lst (hs)).2, [v]] [1, 32, 1] 53).holds w) (hr : (rd v 33 hs.length c (cls hs)).holds w) (hl : hs.length ≤ 100000) (hl32 : (lst hs).2.length = 32) : Calls Try.prog 14 #[.pointer (some ⟨p, 0, none⟩)] w fun e w' => ∃ q v', e = .returned (.pointer (some ⟨q, 0, none⟩)) ∧ Mem w [] w' [blk q [[.int .u64 ((lst (hs)).1 : Int)], bv (lst (hs)).2, [v']] [1, 32, 1] 53, own v' 33 hs.length (cls hs)] := by
  have hM := Mem.startR2 (e := blkR p [[.int .u64 ((lst (hs)).1 : Int)], bv (lst (hs)).2, [v]] [1, 32, 1] 53) (f := rd v 33 hs.length c (cls hs)) hB hr rfl rfl
  refine f_enter 21 Try.func14 rfl rfl rfl ?_
  intro a hE
  replace hE : Env a 21 [(0, _)] := hE
  refine wp_seq_k (fun K1 hK1 => ?_)
  refine wp_plain [true] rfl rfl ?_
  refine s_assign hE rfl rfl ?_; clear hE a; intro a hE
  refine q_nil ?_
  refine hK1 _ _ ?_
  refine wp_seq_k (fun K2 hK2 => ?_)
  refine wp_plain [true] rfl rfl ?_
  refine s_assign hE rfl rfl ?_; clear hE a; intro a hE
  replace hM := hM.addNil 33
  refine q_nil ?_
  refine hK2 _ _ ?_
  refine wp_seq_k (fun K3 hK3 => ?_)
  refine wp_plain [true, true, true, true, true, false, true] rfl rfl ?_
  refine s_move hE rfl rfl ?_; clear hE a; intro a hE
  refine s_move hE rfl rfl ?_; clear hE a; intro a hE
  refine s_nilCheck hE rfl rfl ?_; clear hE a; intro a hE
  refine s_fieldAddr hE rfl fo53_2 rfl ?_; clear hE a; intro a hE
  refine s_load1 hE rfl (blkR_blk (hM.get 1 rfl)) rfl one37 (by intro X h; cases h) rfl ?_; clear hE a; intro a hE
  have hy := hM.get 2 rfl
  refine s_append hE rfl rfl hM sl37 (Src.rd Try.underlying37 hy (cls_one _)) (len47 (by omega)) (by omega) (by intro X h; cases h) rfl ?_; clear hE a hy; intro a v9 w1 hE hM'
  clear hM; have hM := hM'; clear hM'
  replace hM := hM.ownEq (m' := hs.length) (cs' := cls hs) (by simp) (by simp)
  refine s_assign hE rfl rfl ?_; clear hE a; intro a hE
  refine q_nil ?_
  replace hE : Env a 21 [(0, _), (2, _), (3, _)] := hE.sel [0, 2, 3] rfl
  refine hK3 _ _ ?_
  refine wp_seq_k (fun K4 hK4 => ?_)
  refine wp_drawnM hM (by kernel_rfl) (fun _ => False) [(0, true), (1, true), (2, true), (3, true), (4, true), (5, true), (6, true), (7, true), (8, true), (9, true), (10, false), (11, true)] [(10, [(11, 10)])] (by kernel_rfl) rfl ?_
  intro w2 hM' hww2; clear hM; have hM := hM'; clear hM'
  refine s_move hE rfl rfl ?_; clear hE a; intro a hE
  refine s_nilCheck hE rfl rfl ?_; clear hE a; intro a hE
  refine s_fieldAddr hE rfl fo53_0 rfl ?_; clear hE a; intro a hE
  refine s_load1 hE rfl (blkR_blk (hM.get 1 rfl)) rfl one22 (by intro X h; cases h; simp) rfl ?_; clear hE a; intro a hE
  refine s_move hE rfl rfl ?_; clear hE a; intro a hE
  refine s_nilCheck hE rfl rfl ?_; clear hE a; intro a hE
  refine s_fieldAddr hE rfl fo53_1 rfl ?_; clear hE a; intro a hE
  refine s_loadN hE rfl (blkR_blk (hM.get 1 rfl)) row24 rfl (by intro X h; cases h; simp) rfl ?_; clear hE a; intro a hE
  refine s_move hE rfl rfl ?_; clear hE a; intro a hE
  have hvl := own_one (hM.get 0 rfl)
  refine s_buildS [[.int .u64 ((lst hs).1 : Int)], bv (lst hs).2, [v9]] hE rfl zero53 rfl fpl53 ⟨rfl, rfl, rfl, (by simp [hl32]), hvl.1, rfl, trivial⟩ rfl ?_; clear hE a; intro a hE
  refine s_box (ss := [[.int .u64 ((lst hs).1 : Int)], bv (lst hs).2, [v9]]) [1, 32, 1] hE hM rfl rfl (by simp [hl32]) rfl ?_; clear hE a; intro a q w3 hE hM'
  clear hM; have hM := hM'; clear hM'
  refine s_assign hE rfl rfl ?_; clear hE a; intro a hE
  refine q_nil ?_
  replace hE : Env a 21 [(0, _), (2, _), (3, _)] := hE.sel [0, 2, 3] rfl
  refine hK4 _ _ ?_
  refine wp_ret ?_
  refine f_ret1 hE rfl rfl ?_
  exact ⟨q, v9, rfl, hM.pick [0, 1] rfl⟩
theorem rsame_c (u v : Value) (hs : List Cl) (c c' : Nat) (w : World) (hr : (rd u 33 hs.length c (cls hs)).holds w) (hq : (rd v 33 hs.length c' (cls hs)).holds w) (hok : ∀ x, x ∈ hs → OkCl x) (hl : hs.length ≤ 100000) : Calls Try.prog 17 #[u, v] w fun e w' => e = .returned (.bool true) ∧ Mem w [] w' [] := by
  have hM := Mem.startR2 hr hq rfl rfl
  have hget : ∀ i, i < hs.length → OkCl (hs.getD i cl0) := fun i hi => by rw [show hs.getD i cl0 = hs[i] from by simp [List.getD, hi]]; exact hok _ (List.getElem_mem _)
  refine f_enter 26 Try.func17 rfl rfl rfl ?_
  intro a hE
  replace hE : Env a 26 [(0, _), (1, _)] := hE
  refine wp_seq_k (fun K1 hK1 => ?_)
  refine wp_plain [true] rfl rfl ?_
  refine s_assign hE rfl rfl ?_; clear hE a; intro a hE
  refine q_nil ?_
  refine hK1 _ _ ?_
  refine wp_seq_k (fun K2 hK2 => ?_)
  refine wp_seq_k (fun K3 hK3 => ?_)
  refine wp_plain [true, true, true, true, true] rfl rfl ?_
  refine s_move hE rfl rfl ?_; clear hE a; intro a hE
  refine s_len hE rfl Try.underlying37 (rd_slice (hM.get 0 rfl)) rfl ?_; clear hE a; intro a hE
  refine s_move hE rfl rfl ?_; clear hE a; intro a hE
  refine s_len hE rfl Try.underlying37 (rd_slice (hM.get 1 rfl)) rfl ?_; clear hE a; intro a hE
  refine s_bin hE rfl rfl bin_neq rfl ?_; clear hE a; intro a hE
  refine q_nil ?_
  replace hE : Env a 26 [(0, _), (1, _), (4, _), (10, _)] := hE.sel [0, 1, 4, 10] rfl
  refine hK3 _ _ ?_
  replace hE := hE.cast 10 rfl (show _ = Value.bool false from (congrArg Value.bool (by simp)))
  refine wp_cond_false (hE.eval rfl) ?_
  refine wp_skip ?_
  refine hK2 _ _ ?_
  refine wp_seq_k (fun K4 hK4 => ?_)
  refine wp_seq_k (fun K5 hK5 => ?_)
  refine wp_plain [true] rfl rfl ?_
  refine s_assign hE rfl rfl ?_; clear hE a; intro a hE
  refine q_nil ?_
  refine hK5 _ _ ?_
  refine wp_block ?_
  refine c_loop (fun (i : Nat) a w' => i ≤ hs.length ∧ Env a 26 [(0, u), (1, v), (5, .int .i64 (i : Int))] ∧ Mem w [] w' [rd u 33 hs.length c (cls hs), rd v 33 hs.length c' (cls hs)]) (fun i => hs.length - i) 0 ⟨Nat.zero_le _, hE.sel [0, 1, 5] rfl, hM⟩ ?_
  clear hE hM a; rintro i a w1 ⟨hi, hE, hM⟩
  refine wp_seq_k (fun K6 hK6 => ?_)
  refine wp_seq_k (fun K7 hK7 => ?_)
  refine wp_plain [true, true, true, true] rfl rfl ?_
  refine s_move hE rfl rfl ?_; clear hE a; intro a hE
  refine s_move hE rfl rfl ?_; clear hE a; intro a hE
  refine s_len hE rfl Try.underlying37 (rd_slice (hM.get 0 rfl)) rfl ?_; clear hE a; intro a hE
  refine s_bin hE rfl rfl bin_lss rfl ?_; clear hE a; intro a hE
  refine q_nil ?_
  replace hE : Env a 26 [(0, _), (1, _), (5, _), (14, _)] := hE.sel [0, 1, 5, 14] rfl
  refine hK7 _ _ ?_
  refine hE.split 14 rfl (fun hb14 hE' => ?_) (fun hb14 hE' => ?_)
  · replace hE := hE'; clear hE'
    replace hb14 := of_decide_eq_true hb14
    replace hb14 : i < hs.length := by omega
    refine wp_cond_true (hE.eval rfl) ?_
    refine wp_skip ?_
    refine hK6 _ _ ?_
    refine wp_seq_k (fun K8 hK8 => ?_)
    refine wp_block ?_
    refine wp_seq_k (fun K9 hK9 => ?_)
    refine wp_drawnM hM (by kernel_rfl) (fun _ => False) [(0, true), (1, true), (2, true), (3, true), (4, true), (5, true), (6, true), (7, true), (8, true)] [] (by kernel_rfl) rfl ?_
    intro w2 hM' hww2; clear hM; have hM := hM'; clear hM'
    refine s_move hE rfl rfl ?_; clear hE a; intro a hE
    refine s_move hE rfl rfl ?_; clear hE a; intro a hE
    refine s_indexRd (j := i) hE rfl (hM.get 0 rfl) rfl slt37 (by first | rfl | omega) (by first | omega | (simp; omega) | decide) rfl ?_; clear hE a; intro a p19 hE hc19 hp19
    rw [cls_elem hok hb14] at hc19
    refine s_loadAtN hE rfl hc19 (by rw [cl_len (hget i hb14)]; exact row26) (by intro X h; cases h; simp) rfl ?_; clear hE a; intro a hE
    refine s_move hE rfl rfl ?_; clear hE a; intro a hE
    refine s_move hE rfl rfl ?_; clear hE a; intro a hE
    refine s_indexRd (j := i) hE rfl (hM.get 1 rfl) rfl slt37 (by first | rfl | omega) (by first | omega | (simp; omega) | decide) rfl ?_; clear hE a; intro a p23 hE hc23 hp23
    rw [cls_elem hok hb14] at hc23
    refine s_loadAtN hE rfl hc23 (by rw [cl_len (hget i hb14)]; exact row26) (by intro X h; cases h; simp) rfl ?_; clear hE a; intro a hE
    refine s_bin hE rfl rfl (eqCl (hget i hb14) (hget i hb14)).2 rfl ?_; clear hE a; intro a hE
    refine q_nil ?_
    replace hE : Env a 26 [(0, _), (1, _), (5, _), (14, _), (25, _)] := hE.sel [0, 1, 5, 14, 25] rfl
    refine hK9 _ _ ?_
    replace hE := hE.cast 25 rfl (show _ = Value.bool false from (congrArg Value.bool (by simp)))
    refine wp_cond_false (hE.eval rfl) ?_
    refine wp_skip ?_
    refine q_block_n ?_
    refine hK8 _ _ ?_
    refine wp_plain [true, true, true] rfl rfl ?_
    refine s_move hE rfl rfl ?_; clear hE a; intro a hE
    refine s_bin hE rfl rfl (bin_add (wrap_i64 (by omega) (by omega))) rfl ?_; clear hE a; intro a hE
    refine s_assign hE rfl rfl ?_; clear hE a; intro a hE
    refine q_nil ?_
    replace hE : Env a 26 [(0, _), (1, _), (5, _), (14, _), (25, _)] := hE.sel [0, 1, 5, 14, 25] rfl
    replace hE := hE.cast 5 rfl (show _ = Value.int .i64 ((i + 1 : Nat) : Int) from congrArg _ (by omega))
    exact ⟨i + 1, ⟨by omega, hE.sel [0, 1, 5] rfl, hM⟩, by omega⟩
  · replace hE := hE'; clear hE'
    replace hb14 := of_decide_eq_false hb14
    replace hb14 : ¬ i < hs.length := by omega
    refine wp_cond_false (hE.eval rfl) ?_
    refine wp_exit ?_
    refine q_then_e ?_
    refine q_then_e ?_
    refine q_block_x ?_
    refine hK4 _ _ ?_
    refine wp_seq_k (fun K8 hK8 => ?_)
    refine wp_plain [true] rfl rfl ?_
    refine s_assign hE rfl rfl ?_; clear hE a; intro a hE
    refine q_nil ?_
    refine hK8 _ _ ?_
    refine wp_ret ?_
    refine f_ret1 hE rfl rfl ?_
    exact ⟨rfl, hM.nil⟩
set_option maxHeartbeats 2000000 in
theorem cellPlays_bad (c0 : Cl) (v1 : Value) (ls : List (Int × List UInt8)) (c1 : Nat) (w : World) (h0 : OkCl c0) (hr1 : (rd v1 33 ls.length c1 (ls.flatMap act)).holds w) (hls : ∀ t, t ∈ ls → t.2.length = 32) (hm : 4611686018427387904 < c0.1) : Calls Try.prog 4 #[.agg (cl c0).toArray, v1] w fun e w' => e = .returned (.bool true) ∧ Mem w [] w' [] := by
  have hM := Mem.startR1 hr1 rfl
  have hlc := rd_len hr1
  have eM : mostC = 4611686018427387904 := rfl
  have hal : ∀ t : Int × List UInt8, t ∈ ls → (act t).length = 33 := fun t ht => by simp [act, hls t ht]
  refine f_enter 126 Try.func4 rfl rfl rfl ?_
  intro a hE
  replace hE : Env a 126 [(0, _), (1, _)] := hE
  refine wp_seq_k (fun K1 hK1 => ?_)
  refine wp_plain [false, true] rfl rfl ?_
  refine s_box (ss := [[.int .u64 (c0.1 : Int)], bv c0.2]) [1, 32] hE hM rfl (by simp [cl, Value.cells]) (by simp [h0.1]) rfl ?_; clear hE a; intro a b2 w1 hE hM'
  clear hM; have hM := hM'; clear hM'
  refine s_assign hE rfl rfl ?_; clear hE a; intro a hE
  refine q_nil ?_
  replace hE : Env a 126 [(1, _), (2, _), (4, _)] := hE.sel [1, 2, 4] rfl
  refine hK1 _ _ ?_
  refine wp_seq_k (fun K2 hK2 => ?_)
  refine wp_plain [true, false, true, true, true, true, true] rfl rfl ?_
  refine s_loadN hE rfl (hM.get 0 rfl) row26 rfl (by intro X h; cases h) rfl ?_; clear hE a; intro a hE
  replace hE := hE.cast 19 rfl (show _ = Value.agg (cl c0).toArray from by simp [cl])
  refine s_call hE rfl Try.call7 (cnew_bad c0 _ h0 hm) rfl ?_
  rintro e w2 ⟨rfl, hN⟩
  refine ⟨_, rfl, trivial, ?_⟩; clear hE a; intro a hE
  replace hM : Mem _ _ w2 [_, _] := hM.call0 hN trivial; clear hN
  refine s_move hE rfl rfl ?_; clear hE a; intro a hE
  refine s_extract hE rfl rfl rfl ?_; clear hE a; intro a hE
  refine s_extract hE rfl rfl rfl ?_; clear hE a; intro a hE
  refine s_assign hE rfl rfl ?_; clear hE a; intro a hE
  refine s_assign hE rfl rfl ?_; clear hE a; intro a hE
  refine q_nil ?_
  replace hE : Env a 126 [(1, _), (2, _), (4, _), (5, _), (6, _)] := hE.sel [1, 2, 4, 5, 6] rfl
  refine hK2 _ _ ?_
  refine wp_seq_k (fun K3 hK3 => ?_)
  refine wp_plain [true, false, true, true, true, true, true] rfl rfl ?_
  refine s_loadN hE rfl (hM.get 0 rfl) row26 rfl (by intro X h; cases h) rfl ?_; clear hE a; intro a hE
  replace hE := hE.cast 24 rfl (show _ = Value.agg (cl c0).toArray from by simp [cl])
  refine s_call hE rfl Try.call12 (rnew_bad c0 _ h0 hm) rfl ?_
  rintro e w3 ⟨rfl, hN⟩
  refine ⟨_, rfl, trivial, ?_⟩; clear hE a; intro a hE
  replace hM : Mem _ _ w3 [_, _] := hM.call0 hN trivial; clear hN
  refine s_move hE rfl rfl ?_; clear hE a; intro a hE
  refine s_extract hE rfl rfl rfl ?_; clear hE a; intro a hE
  refine s_extract hE rfl rfl rfl ?_; clear hE a; intro a hE
  refine s_assign hE rfl rfl ?_; clear hE a; intro a hE
  refine s_assign hE rfl rfl ?_; clear hE a; intro a hE
  refine q_nil ?_
  replace hE : Env a 126 [(1, _), (2, _), (4, _), (5, _), (6, _), (7, _), (8, _)] := hE.sel [1, 2, 4, 5, 6, 7, 8] rfl
  refine hK3 _ _ ?_
  refine wp_seq_k (fun K4 hK4 => ?_)
  refine wp_seq_k (fun K5 hK5 => ?_)
  refine wp_plain [true, true, true] rfl rfl ?_
  refine s_move hE rfl rfl ?_; clear hE a; intro a hE
  refine s_move hE rfl rfl ?_; clear hE a; intro a hE
  refine s_bin hE rfl rfl bin_neq rfl ?_; clear hE a; intro a hE
  refine q_nil ?_
  replace hE : Env a 126 [(1, _), (2, _), (4, _), (5, _), (6, _), (7, _), (30, _)] := hE.sel [1, 2, 4, 5, 6, 7, 30] rfl
  refine hK5 _ _ ?_
  replace hE := hE.cast 30 rfl (show _ = Value.bool false from (congrArg Value.bool (by rfl)))
  refine wp_cond_false (hE.eval rfl) ?_
  refine wp_skip ?_
  refine hK4 _ _ ?_
  refine wp_seq_k (fun K6 hK6 => ?_)
  refine wp_seq_k (fun K7 hK7 => ?_)
  refine wp_plain [true, true] rfl rfl ?_
  refine s_move hE rfl rfl ?_; clear hE a; intro a hE
  refine s_bin hE rfl rfl bin_neq rfl ?_; clear hE a; intro a hE
  refine q_nil ?_
  replace hE : Env a 126 [(1, _), (2, _), (4, _), (5, _), (6, _), (7, _), (30, _), (32, _)] := hE.sel [1, 2, 4, 5, 6, 7, 30, 32] rfl
  refine hK7 _ _ ?_
  replace hE := hE.cast 32 rfl (show _ = Value.bool true from (congrArg Value.bool (by rfl)))
  refine wp_cond_true (hE.eval rfl) ?_
  refine wp_seq_k (fun K8 hK8 => ?_)
  refine wp_plain [true, true, true, false, true, true] rfl rfl ?_
  refine s_move hE rfl rfl ?_; clear hE a; intro a hE
  refine s_bin hE rfl rfl (bins_nil_nil Try.underlying28).1 rfl ?_; clear hE a; intro a hE
  refine s_move hE rfl rfl ?_; clear hE a; intro a hE
  refine g_yes hE rfl rfl ?_
  refine s_call hE rfl Try.call8 (works12_c _) rfl ?_
  rintro e w4 ⟨rfl, hN⟩
  refine ⟨_, rfl, trivial, ?_⟩; clear hE a; intro a hE
  replace hM : Mem _ _ w4 [_, _] := hM.call0 hN trivial; clear hN
  refine s_pickt hE rfl rfl rfl ?_; clear hE a; intro a hE
  refine s_assign hE rfl rfl ?_; clear hE a; intro a hE
  refine q_nil ?_
  replace hE : Env a 126 [(1, _), (2, _), (4, _), (5, _), (6, _), (7, _), (30, _), (32, _)] := hE.sel [1, 2, 4, 5, 6, 7, 30, 32] rfl
  refine hK8 _ _ ?_
  refine wp_ret ?_
  refine q_then_r ?_
  refine f_ret1 hE rfl rfl ?_
  exact ⟨rfl, hM.nil⟩
set_option maxHeartbeats 2000000 in
theorem cellPlays_ok (c0 : Cl) (v1 : Value) (ls : List (Int × List UInt8)) (c1 : Nat) (w : World) (h0 : OkCl c0) (hr1 : (rd v1 33 ls.length c1 (ls.flatMap act)).holds w) (hls : ∀ t, t ∈ ls → t.2.length = 32) (hm : c0.1 ≤ 4611686018427387904) : Calls Try.prog 4 #[.agg (cl c0).toArray, v1] w fun e w' => e = .returned (.bool true) ∧ Mem w [] w' [] := by
  have hM := Mem.startR1 hr1 rfl
  have hlc := rd_len hr1
  have eM : mostC = 4611686018427387904 := rfl
  have hal : ∀ t : Int × List UInt8, t ∈ ls → (act t).length = 33 := fun t ht => by simp [act, hls t ht]
  refine f_enter 126 Try.func4 rfl rfl rfl ?_
  intro a hE
  replace hE : Env a 126 [(0, _), (1, _)] := hE
  refine wp_seq_k (fun K1 hK1 => ?_)
  refine wp_plain [false, true] rfl rfl ?_
  refine s_box (ss := [[.int .u64 (c0.1 : Int)], bv c0.2]) [1, 32] hE hM rfl (by simp [cl, Value.cells]) (by simp [h0.1]) rfl ?_; clear hE a; intro a b2 w1 hE hM'
  clear hM; have hM := hM'; clear hM'
  refine s_assign hE rfl rfl ?_; clear hE a; intro a hE
  refine q_nil ?_
  replace hE : Env a 126 [(1, _), (2, _), (4, _)] := hE.sel [1, 2, 4] rfl
  refine hK1 _ _ ?_
  refine wp_seq_k (fun K2 hK2 => ?_)
  refine wp_plain [true, false, true, true, true, true, true] rfl rfl ?_
  refine s_loadN hE rfl (hM.get 0 rfl) row26 rfl (by intro X h; cases h) rfl ?_; clear hE a; intro a hE
  replace hE := hE.cast 19 rfl (show _ = Value.agg (cl c0).toArray from by simp [cl])
  refine s_call hE rfl Try.call7 (cnew_ok c0 _ h0 (by have e : mostC = 4611686018427387904 := rfl; omega)) rfl ?_
  rintro e w2 ⟨pc, bc, rfl, hN⟩
  refine ⟨_, rfl, trivial, ?_⟩; clear hE a; intro a hE
  replace hM : Mem _ _ w2 [_, _, _, _] := hM.call0 hN ⟨rfl, rfl, trivial⟩; clear hN
  have kc := OkH.one (c0 := c0) h0 (by have e : mostC = 4611686018427387904 := rfl; omega)
  refine s_move hE rfl rfl ?_; clear hE a; intro a hE
  refine s_extract hE rfl rfl rfl ?_; clear hE a; intro a hE
  refine s_extract hE rfl rfl rfl ?_; clear hE a; intro a hE
  refine s_assign hE rfl rfl ?_; clear hE a; intro a hE
  refine s_assign hE rfl rfl ?_; clear hE a; intro a hE
  refine q_nil ?_
  replace hE : Env a 126 [(1, _), (2, _), (4, _), (5, _), (6, _)] := hE.sel [1, 2, 4, 5, 6] rfl
  refine hK2 _ _ ?_
  refine wp_seq_k (fun K3 hK3 => ?_)
  refine wp_plain [true, false, true, true, true, true, true] rfl rfl ?_
  refine s_loadN hE rfl (hM.get 2 rfl) row26 rfl (by intro X h; cases h) rfl ?_; clear hE a; intro a hE
  replace hE := hE.cast 24 rfl (show _ = Value.agg (cl c0).toArray from by simp [cl])
  refine s_call hE rfl Try.call12 (rnew_ok c0 _ h0 hm) rfl ?_
  rintro e w3 ⟨pq, vq, rfl, hN⟩
  refine ⟨_, rfl, trivial, ?_⟩; clear hE a; intro a hE
  replace hM : Mem _ _ w3 [_, _, _, _, _, _] := hM.call0 hN ⟨rfl, rfl, trivial⟩; clear hN
  refine s_move hE rfl rfl ?_; clear hE a; intro a hE
  refine s_extract hE rfl rfl rfl ?_; clear hE a; intro a hE
  refine s_extract hE rfl rfl rfl ?_; clear hE a; intro a hE
  refine s_assign hE rfl rfl ?_; clear hE a; intro a hE
  refine s_assign hE rfl rfl ?_; clear hE a; intro a hE
  refine q_nil ?_
  replace hE : Env a 126 [(1, _), (2, _), (4, _), (5, _), (6, _), (7, _), (8, _)] := hE.sel [1, 2, 4, 5, 6, 7, 8] rfl
  refine hK3 _ _ ?_
  refine wp_seq_k (fun K4 hK4 => ?_)
  refine wp_seq_k (fun K5 hK5 => ?_)
  refine wp_plain [true, true, true] rfl rfl ?_
  refine s_move hE rfl rfl ?_; clear hE a; intro a hE
  refine s_move hE rfl rfl ?_; clear hE a; intro a hE
  refine s_bin hE rfl rfl bin_neq rfl ?_; clear hE a; intro a hE
  refine q_nil ?_
  replace hE : Env a 126 [(1, _), (2, _), (4, _), (5, _), (6, _), (7, _), (30, _)] := hE.sel [1, 2, 4, 5, 6, 7, 30] rfl
  refine hK5 _ _ ?_
  replace hE := hE.cast 30 rfl (show _ = Value.bool false from (congrArg Value.bool (by rfl)))
  refine wp_cond_false (hE.eval rfl) ?_
  refine wp_skip ?_
  refine hK4 _ _ ?_
  refine wp_seq_k (fun K6 hK6 => ?_)
  refine wp_seq_k (fun K7 hK7 => ?_)
  refine wp_plain [true, true] rfl rfl ?_
  refine s_move hE rfl rfl ?_; clear hE a; intro a hE
  refine s_bin hE rfl rfl bin_neq rfl ?_; clear hE a; intro a hE
  refine q_nil ?_
  replace hE : Env a 126 [(1, _), (2, _), (4, _), (5, _), (6, _), (7, _), (30, _), (32, _)] := hE.sel [1, 2, 4, 5, 6, 7, 30, 32] rfl
  refine hK7 _ _ ?_
  replace hE := hE.cast 32 rfl (show _ = Value.bool false from (congrArg Value.bool (by rfl)))
  refine wp_cond_false (hE.eval rfl) ?_
  refine wp_skip ?_
  refine hK6 _ _ ?_
  refine wp_seq_k (fun K8 hK8 => ?_)
  refine wp_plain [true, false, true, false, true, true] rfl rfl ?_
  refine s_move hE rfl rfl ?_; clear hE a; intro a hE
  replace hM : Mem _ _ w3 [_, _, _, _, _, _] := hM.pick [3, 0, 1, 2, 4, 5] rfl
  replace hM := hM.freezeF
  refine s_call hE rfl Try.call13 (ccopy_c pc _ ([c0]) _ _ (hM.get 3 rfl) (hM.get 0 rfl) kc.pos) rfl ?_
  rintro e w4 ⟨po, vo, rfl, hrx, hsx, hN⟩
  refine ⟨_, rfl, trivial, ?_⟩; clear hE a; intro a hE
  replace hM : Mem _ _ w4 [_, _, _, _, _, _, _] := hM.call0 hN ⟨rfl, trivial⟩; clear hN
  replace hM := hM.addPart 1 rfl hrx hsx
  refine s_move hE rfl rfl ?_; clear hE a; intro a hE
  obtain ⟨cq41, hq41⟩ := own_rd (hM.get 4 rfl)
  refine s_call hE rfl Try.call14 (rcopy_c pq vq ([c0]) _ _ (hM.get 3 rfl) hq41 (by first | omega | simp) kc.last.1) rfl ?_
  rintro e w5 ⟨pu, vu, rfl, hN⟩
  refine ⟨_, rfl, trivial, ?_⟩; clear hE a; intro a hE
  replace hM : Mem _ _ w5 [_, _, _, _, _, _, _, _, _, _] := hM.call0 hN ⟨rfl, rfl, trivial⟩; clear hN
  refine s_assign hE rfl rfl ?_; clear hE a; intro a hE
  refine s_assign hE rfl rfl ?_; clear hE a; intro a hE
  refine q_nil ?_
  replace hE : Env a 126 [(1, _), (2, _), (4, _), (5, _), (6, _), (7, _), (9, _), (10, _), (30, _), (32, _)] := hE.sel [1, 2, 4, 5, 6, 7, 9, 10, 30, 32] rfl
  refine hK8 _ _ ?_
  refine wp_seq_k (fun K9 hK9 => ?_)
  refine wp_seq_k (fun K10 hK10 => ?_)
  refine wp_plain [true] rfl rfl ?_
  refine s_assign hE rfl rfl ?_; clear hE a; intro a hE
  refine q_nil ?_
  refine hK10 _ _ ?_
  refine wp_block ?_
  replace hM : Mem _ _ w5 [_, _, _, _, _, _, _, _, _, _] := hM.pick [7, 4, 5, 6, 3, 2, 0, 1, 9, 8] rfl
  replace hM : Mem _ _ w5 [_, _, _, _, _, _, _, _, _] := hM.pick [0, 1, 2, 3, 4, 5, 6, 7, 8] rfl
  refine c_loop (fun (i : Nat) a w' => i ≤ ls.length ∧ i ≤ 40 ∧ ∃ hs os b pc vc pq vq po vo co pu vu, OkH c0 hs ∧ OkH c0 os ∧ hs.length ≤ i + 1 ∧ os.length ≤ i + 1 ∧ Env a 126 [(1, v1), (5, .pointer (some ⟨pc, 0, none⟩)), (7, .pointer (some ⟨pq, 0, none⟩)), (9, .pointer (some ⟨po, 0, none⟩)), (10, .pointer (some ⟨pu, 0, none⟩)), (11, .int .i64 (i : Int))] ∧ Mem w [] w' [blk pc [[vc]] [1] 56, hv b vc 33 hs.length (cls hs), blk pq [[.int .u64 ((lst (hs)).1 : Int)], bv (lst (hs)).2, [vq]] [1, 32, 1] 53, own vq 33 hs.length (cls hs), blk po [[vo]] [1] 56, rd vo 33 os.length co (cls os), blk pu [[.int .u64 ((lst (os)).1 : Int)], bv (lst (os)).2, [vu]] [1, 32, 1] 53, own vu 33 os.length (cls os), rd v1 33 ls.length c1 (ls.flatMap act)]) (fun i => 40 - i) 0 ⟨Nat.zero_le _, Nat.zero_le _, [c0], [c0], false, _, _, _, _, _, _, _, _, _, kc, kc, by simp, by simp, hE.sel [1, 5, 7, 9, 10, 11] rfl, hM⟩ ?_
  clear hE hM a; rintro i a w6 ⟨hi, hi2, hs, os, b, pc, vc, pq, vq, po, vo, co, pu, vu, k1, ko, kl, klo, hE, hM⟩
  refine wp_seq_k (fun K11 hK11 => ?_)
  refine wp_seq_k (fun K12 hK12 => ?_)
  refine wp_plain [true, true, true, true, true, true, true, true] rfl rfl ?_
  refine s_move hE rfl rfl ?_; clear hE a; intro a hE
  refine s_move hE rfl rfl ?_; clear hE a; intro a hE
  refine s_len hE rfl Try.underlying40 (rd_slice (hM.get 8 rfl)) rfl ?_; clear hE a; intro a hE
  refine s_bin hE rfl rfl bin_lss rfl ?_; clear hE a; intro a hE
  refine s_move hE rfl rfl ?_; clear hE a; intro a hE
  refine hE.split 46 rfl (fun hb46 hE' => ?_) (fun hb46 hE' => ?_)
  · replace hE := hE'; clear hE'
    replace hb46 := of_decide_eq_true hb46
    replace hb46 : i < ls.length := by omega
    refine g_yes hE rfl rfl ?_
    refine s_move hE rfl rfl ?_; clear hE a; intro a hE
    refine g_yes hE rfl rfl ?_
    refine s_bin hE rfl rfl bin_lss rfl ?_; clear hE a; intro a hE
    refine s_pickt hE rfl rfl rfl ?_; clear hE a; intro a hE
    refine q_nil ?_
    replace hE : Env a 126 [(1, _), (5, _), (7, _), (9, _), (10, _), (11, _), (49, _)] := hE.sel [1, 5, 7, 9, 10, 11, 49] rfl
    refine hK12 _ _ ?_
    refine hE.split 49 rfl (fun hb49 hE' => ?_) (fun hb49 hE' => ?_)
    · replace hE := hE'; clear hE'
      replace hb49 := of_decide_eq_true hb49
      have hlab := acts_get hls hb46
      refine wp_cond_true (hE.eval rfl) ?_
      refine wp_skip ?_
      refine hK11 _ _ ?_
      refine wp_seq_k (fun K13 hK13 => ?_)
      refine wp_block ?_
      refine wp_seq_k (fun K14 hK14 => ?_)
      refine wp_seq_k (fun K15 hK15 => ?_)
      refine wp_plain [true, true, true, true, true, true, true] rfl rfl ?_
      refine s_move hE rfl rfl ?_; clear hE a; intro a hE
      refine s_move hE rfl rfl ?_; clear hE a; intro a hE
      refine s_indexRd (j := i) hE rfl (hM.get 8 rfl) rfl slt40 (by first | rfl | omega) (by first | omega | (simp; omega) | decide) rfl ?_; clear hE a; intro a p54 hE hc54 hp54
      rw [flat_elem (d := (0, [])) hal hb46] at hc54
      refine s_fieldAtN (m := 1) hE rfl hc54 fo47_0 rfl ?_; clear hE a; intro a p55 hE hc55 hp55
      rw [act_what] at hc55
      refine s_loadAt1 hE rfl hc55 one3 (by intro X h; cases h) rfl ?_; clear hE a; intro a hE
      refine s_bin hE rfl rfl (bin_rem (by decide) rfl) rfl ?_; clear hE a; intro a hE
      refine s_bin hE rfl rfl bin_neq rfl ?_; clear hE a; intro a hE
      refine q_nil ?_
      replace hE : Env a 126 [(1, _), (5, _), (7, _), (9, _), (10, _), (11, _), (49, _), (58, _)] := hE.sel [1, 5, 7, 9, 10, 11, 49, 58] rfl
      refine hK15 _ _ ?_
      refine hE.split 58 rfl (fun hb58 hE' => ?_) (fun hb58 hE' => ?_)
      · replace hE := hE'; clear hE'
        refine wp_cond_true (hE.eval rfl) ?_
        refine wp_seq_k (fun K16 hK16 => ?_)
        refine wp_plain [true, true, true, true] rfl rfl ?_
        refine s_move hE rfl rfl ?_; clear hE a; intro a hE
        refine s_move hE rfl rfl ?_; clear hE a; intro a hE
        refine s_assign hE rfl rfl ?_; clear hE a; intro a hE
        refine s_assign hE rfl rfl ?_; clear hE a; intro a hE
        refine q_nil ?_
        replace hE : Env a 126 [(1, _), (5, _), (7, _), (9, _), (10, _), (11, _), (49, _), (58, _)] := hE.sel [1, 5, 7, 9, 10, 11, 49, 58] rfl
        refine hK16 _ _ ?_
        refine wp_plain [true, false, true, false, true, true] rfl rfl ?_
        refine s_move hE rfl rfl ?_; clear hE a; intro a hE
        replace hM : Mem _ _ w6 [_, _, _, _, _, _, _, _, _] := hM.pick [1, 0, 2, 3, 4, 5, 6, 7, 8] rfl
        obtain ⟨cf, hM⟩ := hM.hvFreeze
        refine s_call hE rfl Try.call13 (ccopy_c pc vc (hs) _ _ (hM.get 1 rfl) (hM.get 0 rfl) k1.pos) rfl ?_
        rintro e w7 ⟨pe, ve, rfl, hrx, hsx, hN⟩
        refine ⟨_, rfl, trivial, ?_⟩; clear hE a; intro a hE
        replace hM : Mem _ _ w7 [_, _, _, _, _, _, _, _, _, _] := hM.call0 hN ⟨rfl, trivial⟩; clear hN
        replace hM := hM.addPart 1 rfl hrx hsx
        refine s_move hE rfl rfl ?_; clear hE a; intro a hE
        obtain ⟨cq64, hq64⟩ := own_rd (hM.get 5 rfl)
        refine s_call hE rfl Try.call14 (rcopy_c pq vq (hs) _ _ (hM.get 4 rfl) hq64 (by first | omega | simp) k1.last.1) rfl ?_
        rintro e w8 ⟨pf, vf, rfl, hN⟩
        refine ⟨_, rfl, trivial, ?_⟩; clear hE a; intro a hE
        replace hM : Mem _ _ w8 [_, _, _, _, _, _, _, _, _, _, _, _, _] := hM.call0 hN ⟨rfl, rfl, trivial⟩; clear hN
        refine s_assign hE rfl rfl ?_; clear hE a; intro a hE
        refine s_assign hE rfl rfl ?_; clear hE a; intro a hE
        refine q_nil ?_
        replace hE : Env a 126 [(1, _), (5, _), (7, _), (9, _), (10, _), (11, _), (49, _), (58, _)] := hE.sel [1, 5, 7, 9, 10, 11, 49, 58] rfl
        refine hK14 _ _ ?_
        refine wp_seq_k (fun K17 hK17 => ?_)
        refine wp_plain [true, false, true, true, true, false, false, true] rfl rfl ?_
        refine s_move hE rfl rfl ?_; clear hE a; intro a hE
        have hr95 := hM.get 2 rfl
        refine s_call hE rfl Try.call10 (cread_c pe ve (hs) _ _ (hM.get 3 rfl) hr95 k1.ok k1.pos (by omega)) rfl ?_
        rintro e w9 ⟨rfl, hN⟩
        refine ⟨_, rfl, trivial, ?_⟩; clear hE a; intro a hE
        replace hM : Mem _ _ w9 [_, _, _, _, _, _, _, _, _, _, _, _, _] := hM.call0 hN trivial; clear hN
        refine s_move hE rfl rfl ?_; clear hE a; intro a hE
        refine s_extract hE rfl rfl rfl ?_; clear hE a; intro a hE
        refine s_extract hE rfl rfl rfl ?_; clear hE a; intro a hE
        refine s_alloc [1, 32] hE hM zero26 rfl rfl ?_; clear hE a; intro a b16 w10 hE hM'
        clear hM; have hM := hM'; clear hM'
        refine s_storeSegs 0 2 (vss := [[.int .u64 ((lst (hs)).1 : Int)], bv (lst (hs)).2]) hE rfl rfl hM (show (Value.agg (cl (lst (hs))).toArray).cells = _ by simp [Value.cells, cl]) sz26 (by simp [k1.last.1]) (by decide) rfl (one_fl ⟨one1 rfl, bv_one _, trivial⟩) rfl (by intro X h; cases h) ?_; intro w11 hM'; clear hM; have hM := hM'; clear hM'
        simp only [List.take_zero, List.take_succ_cons, List.drop_zero, List.drop_succ_cons, List.take_nil, List.drop_nil, List.nil_append, List.append_nil, List.cons_append] at hM
        refine s_assign hE rfl rfl ?_; clear hE a; intro a hE
        refine q_nil ?_
        replace hE : Env a 126 [(1, _), (5, _), (7, _), (9, _), (10, _), (11, _), (16, _), (17, _), (49, _), (58, _)] := hE.sel [1, 5, 7, 9, 10, 11, 16, 17, 49, 58] rfl
        refine hK17 _ _ ?_
        refine wp_seq_k (fun K18 hK18 => ?_)
        refine wp_drawnM hM (by kernel_rfl) (fun _ => False) [(0, true), (1, true), (2, true), (3, true), (4, true), (5, false), (6, true), (7, true), (8, true), (9, true), (11, true), (12, true), (13, true), (14, true), (10, false), (15, false), (16, true), (17, true)] [(5, [(6, 5), (7, 6), (8, 5), (9, 8), (11, 8), (12, 8), (13, 8), (14, 8), (10, 8), (15, 8), (16, 8), (17, 8)]), (10, [(15, 10), (16, 15), (17, 16)]), (15, [(16, 15), (17, 16)])] (by kernel_rfl) rfl ?_
        intro w12 hM' hww12; clear hM; have hM := hM'; clear hM'
        refine s_move hE rfl rfl ?_; clear hE a; intro a hE
        refine s_bin hE rfl rfl bin_neq rfl ?_; clear hE a; intro a hE
        refine s_move hE rfl rfl ?_; clear hE a; intro a hE
        replace hE := hE.cast 100 rfl (show _ = Value.bool false from (congrArg Value.bool (by rfl)))
        refine g_yes hE rfl rfl ?_
        refine s_loadN hE rfl (hM.get 0 rfl) row26 rfl (by intro X h; cases h; simp) rfl ?_; clear hE a; intro a hE
        replace hE := hE.cast 101 rfl (show _ = Value.agg (cl (lst (hs))).toArray from by simp [cl])
        refine g_yes hE rfl rfl ?_
        refine s_move hE rfl rfl ?_; clear hE a; intro a hE
        refine g_yes hE rfl rfl ?_
        refine s_call hE rfl Try.call16 (rread_c pf _ (lst (hs)).2 vf _ (hM.get 1 rfl) k1.last.1) rfl ?_
        rintro e w13 ⟨rfl, hN⟩
        refine ⟨_, rfl, hN.sta0 _, ?_⟩; clear hE a; intro a hE
        replace hM : Mem _ _ w13 [_, _, _, _, _, _, _, _, _, _, _, _, _, _] := hM.call0 hN trivial; clear hN
        refine g_yes hE rfl rfl ?_
        refine s_bin hE rfl rfl (eqCl k1.last k1.last).2 rfl ?_; clear hE a; intro a hE
        refine s_pickf hE rfl rfl rfl ?_; clear hE a; intro a hE
        refine s_move hE rfl rfl ?_; clear hE a; intro a hE
        replace hE := hE.cast 106 rfl (show _ = Value.bool false from (congrArg Value.bool (by simp)))
        refine g_yes hE rfl rfl ?_
        refine s_move hE rfl rfl ?_; clear hE a; intro a hE
        refine g_yes hE rfl rfl ?_
        refine s_move hE rfl rfl ?_; clear hE a; intro a hE
        refine g_yes hE rfl rfl ?_
        refine s_nilCheck hE rfl rfl ?_; clear hE a; intro a hE
        refine g_yes hE rfl rfl ?_
        refine s_fieldAddr hE rfl fo53_2 rfl ?_; clear hE a; intro a hE
        refine g_yes hE rfl rfl ?_
        refine s_load1 hE rfl (hM.get 1 rfl) rfl one37 (by intro X h; cases h; simp) rfl ?_; clear hE a; intro a hE
        refine g_yes hE rfl rfl ?_
        have hr108 := hM.get 3 rfl
        refine s_call hE rfl Try.call11 (chist_c pe ve (hs) _ _ (hM.get 4 rfl) hr108 k1.pos (by omega)) rfl ?_
        rintro e w14 ⟨vg, rfl, hN⟩
        refine ⟨_, rfl, hN.sta0 _, ?_⟩; clear hE a; intro a hE
        replace hM : Mem _ _ w14 [_, _, _, _, _, _, _, _, _, _, _, _, _, _, _] := hM.call0 hN ⟨rfl, trivial⟩; clear hN
        refine g_yes hE rfl rfl ?_
        obtain ⟨cg, hg⟩ := own_rd (hM.get 0 rfl)
        obtain ⟨cl, hl⟩ := own_rd (hM.get 3 rfl)
        refine s_call hE rfl Try.call17 (rsame_c _ _ (hs) _ _ _ hg hl k1.ok (by omega)) rfl ?_
        rintro e w15 ⟨rfl, hN⟩
        refine ⟨_, rfl, hN.sta0 _, ?_⟩; clear hE a; intro a hE
        replace hM : Mem _ _ w15 [_, _, _, _, _, _, _, _, _, _, _, _, _, _, _] := hM.call0 hN trivial; clear hN
        refine g_yes hE rfl rfl ?_
        refine s_not hE rfl rfl ?_; clear hE a; intro a hE
        refine s_pickf hE rfl rfl rfl ?_; clear hE a; intro a hE
        refine q_nil ?_
        replace hE : Env a 126 [(1, _), (5, _), (7, _), (9, _), (10, _), (11, _), (16, _), (17, _), (49, _), (58, _), (115, _)] := hE.sel [1, 5, 7, 9, 10, 11, 16, 17, 49, 58, 115] rfl
        refine hK18 _ _ ?_
        replace hE := hE.cast 115 rfl (show _ = Value.bool false from (congrArg Value.bool (by rfl)))
        refine wp_cond_false (hE.eval rfl) ?_
        refine wp_skip ?_
        refine q_block_n ?_
        refine hK13 _ _ ?_
        refine wp_plain [true, true, true] rfl rfl ?_
        refine s_move hE rfl rfl ?_; clear hE a; intro a hE
        refine s_bin hE rfl rfl (bin_add (wrap_i64 (by omega) (by omega))) rfl ?_; clear hE a; intro a hE
        refine s_assign hE rfl rfl ?_; clear hE a; intro a hE
        refine q_nil ?_
        replace hE : Env a 126 [(1, _), (5, _), (7, _), (9, _), (10, _), (11, _), (16, _), (17, _), (49, _), (58, _), (115, _)] := hE.sel [1, 5, 7, 9, 10, 11, 16, 17, 49, 58, 115] rfl
        replace hE := hE.cast 11 rfl (show _ = Value.int .i64 ((i + 1 : Nat) : Int) from congrArg _ (by omega))
        replace hM : Mem _ _ w15 [_, _, _, _, _, _, _, _, _, _, _, _, _, _, _] := hM.pick [5, 4, 2, 3, 7, 6, 8, 9, 14, 0, 1, 10, 11, 12, 13] rfl
        replace hM : Mem _ _ w15 [_, _, _, _, _, _, _, _, _] := hM.pick [0, 1, 2, 3, 4, 5, 6, 7, 8] rfl
        exact ⟨i + 1, ⟨by omega, by omega, hs, hs, false, _, _, _, _, _, _, _, _, _, k1, k1, by omega, by omega, hE.sel [1, 5, 7, 9, 10, 11] rfl, hM⟩, by omega⟩
      · replace hE := hE'; clear hE'
        refine wp_cond_false (hE.eval rfl) ?_
        refine wp_seq_k (fun K16 hK16 => ?_)
        refine wp_plain [true, true, true, true, true, true, false, true, true, true, true, true] rfl rfl ?_
        refine s_move hE rfl rfl ?_; clear hE a; intro a hE
        refine s_move hE rfl rfl ?_; clear hE a; intro a hE
        refine s_move hE rfl rfl ?_; clear hE a; intro a hE
        refine s_indexRd (j := i) hE rfl (hM.get 8 rfl) rfl slt40 (by first | rfl | omega) (by first | omega | (simp; omega) | decide) rfl ?_; clear hE a; intro a p69 hE hc69 hp69
        rw [flat_elem (d := (0, [])) hal hb46] at hc69
        refine s_fieldAtN (m := 32) hE rfl hc69 fo47_1 rfl ?_; clear hE a; intro a p70 hE hc70 hp70
        rw [act_lab hlab] at hc70
        refine s_loadAtN hE rfl hc70 (by rw [bv_length, hlab]; exact row24) (by intro X h; cases h) rfl ?_; clear hE a; intro a hE
        have hap := apart_of_get hM.apart (i := 0) (j := 1) rfl rfl (by decide)
        refine s_call hE rfl Try.call9 (cadv_c b pc vc (hs) (ls.getD i (0, [])).2 _ (hM.get 0 rfl) (hM.get 1 rfl) (hap.1 _ (.head _)) k1.ok k1.pos (by first | omega | decide) hlab k1.top) rfl ?_; clear hap
        rintro e w7 ⟨vc72, rfl, hro, hN⟩
        refine ⟨_, rfl, trivial, ?_⟩; clear hE a; intro a hE
        replace hM : Mem _ _ w7 [_, _, _, _, _, _, _, _, _] := hM.call2R hN rfl hro; clear hN hro
        have kc72 := k1.adv (lab := (ls.getD i (0, [])).2) hlab
        have kl2 := (advL_len hs (ls.getD i (0, [])).2).1
        refine s_move hE rfl rfl ?_; clear hE a; intro a hE
        refine s_extract hE rfl rfl rfl ?_; clear hE a; intro a hE
        refine s_extract hE rfl rfl rfl ?_; clear hE a; intro a hE
        refine s_assign hE rfl rfl ?_; clear hE a; intro a hE
        refine s_assign hE rfl rfl ?_; clear hE a; intro a hE
        refine q_nil ?_
        replace hE : Env a 126 [(1, _), (5, _), (7, _), (9, _), (10, _), (11, _), (12, _), (13, _), (49, _), (58, _)] := hE.sel [1, 5, 7, 9, 10, 11, 12, 13, 49, 58] rfl
        refine hK16 _ _ ?_
        refine wp_seq_k (fun K17 hK17 => ?_)
        refine wp_plain [true, true, true, true, true, true, false, true, true, true, true, true] rfl rfl ?_
        refine s_move hE rfl rfl ?_; clear hE a; intro a hE
        refine s_move hE rfl rfl ?_; clear hE a; intro a hE
        refine s_move hE rfl rfl ?_; clear hE a; intro a hE
        refine s_indexRd (j := i) hE rfl (hM.get 8 rfl) rfl slt40 (by first | rfl | omega) (by first | omega | (simp; omega) | decide) rfl ?_; clear hE a; intro a p79 hE hc79 hp79
        rw [flat_elem (d := (0, [])) hal hb46] at hc79
        refine s_fieldAtN (m := 32) hE rfl hc79 fo47_1 rfl ?_; clear hE a; intro a p80 hE hc80 hp80
        rw [act_lab hlab] at hc80
        refine s_loadAtN hE rfl hc80 (by rw [bv_length, hlab]; exact row24) (by intro X h; cases h) rfl ?_; clear hE a; intro a hE
        replace hM : Mem _ _ w7 [_, _, _, _, _, _, _, _, _] := hM.pick [2, 3, 0, 1, 4, 5, 6, 7, 8] rfl
        have hap := apart_of_get hM.apart (i := 0) (j := 1) rfl rfl (by decide)
        refine s_call hE rfl Try.call15 (radv_c pq vq hs (ls.getD i (0, [])).2 _ (hM.get 0 rfl) (hM.get 1 rfl) (hap.1 _ (.head _)).1 (by omega) k1.last.1 hlab k1.top) rfl ?_; clear hap
        rintro e w8 ⟨vq82, rfl, hN⟩
        refine ⟨_, rfl, trivial, ?_⟩; clear hE a; intro a hE
        replace hM : Mem _ _ w8 [_, _, _, _, _, _, _, _, _] := hM.call2 hN ⟨rfl, rfl, trivial⟩; clear hN
        refine s_move hE rfl rfl ?_; clear hE a; intro a hE
        refine s_extract hE rfl rfl rfl ?_; clear hE a; intro a hE
        refine s_extract hE rfl rfl rfl ?_; clear hE a; intro a hE
        refine s_assign hE rfl rfl ?_; clear hE a; intro a hE
        refine s_assign hE rfl rfl ?_; clear hE a; intro a hE
        refine q_nil ?_
        replace hE : Env a 126 [(1, _), (5, _), (7, _), (9, _), (10, _), (11, _), (12, _), (13, _), (14, _), (15, _), (49, _), (58, _)] := hE.sel [1, 5, 7, 9, 10, 11, 12, 13, 14, 15, 49, 58] rfl
        refine hK17 _ _ ?_
        refine wp_seq_k (fun K18 hK18 => ?_)
        refine wp_plain [true, true, true, true, true, true, true, true] rfl rfl ?_
        refine s_move hE rfl rfl ?_; clear hE a; intro a hE
        refine s_move hE rfl rfl ?_; clear hE a; intro a hE
        refine s_bin hE rfl rfl bin_neq rfl ?_; clear hE a; intro a hE
        refine s_move hE rfl rfl ?_; clear hE a; intro a hE
        replace hE := hE.cast 88 rfl (show _ = Value.bool false from (congrArg Value.bool (by simp)))
        refine g_yes hE rfl rfl ?_
        refine s_move hE rfl rfl ?_; clear hE a; intro a hE
        refine g_yes hE rfl rfl ?_
        refine s_move hE rfl rfl ?_; clear hE a; intro a hE
        refine g_yes hE rfl rfl ?_
        refine s_bin hE rfl rfl bin_neq rfl ?_; clear hE a; intro a hE
        refine s_pickf hE rfl rfl rfl ?_; clear hE a; intro a hE
        refine q_nil ?_
        replace hE : Env a 126 [(1, _), (5, _), (7, _), (9, _), (10, _), (11, _), (12, _), (13, _), (14, _), (15, _), (49, _), (58, _), (92, _)] := hE.sel [1, 5, 7, 9, 10, 11, 12, 13, 14, 15, 49, 58, 92] rfl
        refine hK18 _ _ ?_
        replace hE := hE.cast 92 rfl (show _ = Value.bool false from (congrArg Value.bool (by simp)))
        refine wp_cond_false (hE.eval rfl) ?_
        refine wp_skip ?_
        refine hK14 _ _ ?_
        refine wp_seq_k (fun K19 hK19 => ?_)
        refine wp_plain [true, false, true, true, true, false, false, true] rfl rfl ?_
        generalize advL hs (ls.getD i (0, [])).2 = gs at *
        refine s_move hE rfl rfl ?_; clear hE a; intro a hE
        obtain ⟨cr95, hr95⟩ := hv_rd (hM.get 3 rfl)
        refine s_call hE rfl Try.call10 (cread_c pc vc72 (gs) _ _ (hM.get 2 rfl) hr95 kc72.ok kc72.pos (by omega)) rfl ?_
        rintro e w9 ⟨rfl, hN⟩
        refine ⟨_, rfl, trivial, ?_⟩; clear hE a; intro a hE
        replace hM : Mem _ _ w9 [_, _, _, _, _, _, _, _, _] := hM.call0 hN trivial; clear hN
        refine s_move hE rfl rfl ?_; clear hE a; intro a hE
        refine s_extract hE rfl rfl rfl ?_; clear hE a; intro a hE
        refine s_extract hE rfl rfl rfl ?_; clear hE a; intro a hE
        refine s_alloc [1, 32] hE hM zero26 rfl rfl ?_; clear hE a; intro a b16 w10 hE hM'
        clear hM; have hM := hM'; clear hM'
        refine s_storeSegs 0 2 (vss := [[.int .u64 ((lst (gs)).1 : Int)], bv (lst (gs)).2]) hE rfl rfl hM (show (Value.agg (cl (lst (gs))).toArray).cells = _ by simp [Value.cells, cl]) sz26 (by simp [kc72.last.1]) (by decide) rfl (one_fl ⟨one1 rfl, bv_one _, trivial⟩) rfl (by intro X h; cases h) ?_; intro w11 hM'; clear hM; have hM := hM'; clear hM'
        simp only [List.take_zero, List.take_succ_cons, List.drop_zero, List.drop_succ_cons, List.take_nil, List.drop_nil, List.nil_append, List.append_nil, List.cons_append] at hM
        refine s_assign hE rfl rfl ?_; clear hE a; intro a hE
        refine q_nil ?_
        replace hE : Env a 126 [(1, _), (5, _), (7, _), (9, _), (10, _), (11, _), (12, _), (13, _), (14, _), (15, _), (16, _), (17, _), (49, _), (58, _), (92, _)] := hE.sel [1, 5, 7, 9, 10, 11, 12, 13, 14, 15, 16, 17, 49, 58, 92] rfl
        refine hK19 _ _ ?_
        refine wp_seq_k (fun K20 hK20 => ?_)
        refine wp_drawnM hM (by kernel_rfl) (fun _ => False) [(0, true), (1, true), (2, true), (3, true), (4, true), (5, false), (6, true), (7, true), (8, true), (9, true), (11, true), (12, true), (13, true), (14, true), (10, false), (15, false), (16, true), (17, true)] [(5, [(6, 5), (7, 6), (8, 5), (9, 8), (11, 8), (12, 8), (13, 8), (14, 8), (10, 8), (15, 8), (16, 8), (17, 8)]), (10, [(15, 10), (16, 15), (17, 16)]), (15, [(16, 15), (17, 16)])] (by kernel_rfl) rfl ?_
        intro w12 hM' hww12; clear hM; have hM := hM'; clear hM'
        refine s_move hE rfl rfl ?_; clear hE a; intro a hE
        refine s_bin hE rfl rfl bin_neq rfl ?_; clear hE a; intro a hE
        refine s_move hE rfl rfl ?_; clear hE a; intro a hE
        replace hE := hE.cast 100 rfl (show _ = Value.bool false from (congrArg Value.bool (by rfl)))
        refine g_yes hE rfl rfl ?_
        refine s_loadN hE rfl (hM.get 0 rfl) row26 rfl (by intro X h; cases h; simp) rfl ?_; clear hE a; intro a hE
        replace hE := hE.cast 101 rfl (show _ = Value.agg (cl (lst (gs))).toArray from by simp [cl])
        refine g_yes hE rfl rfl ?_
        refine s_move hE rfl rfl ?_; clear hE a; intro a hE
        refine g_yes hE rfl rfl ?_
        refine s_call hE rfl Try.call16 (rread_c pq _ (lst (gs)).2 vq82 _ (hM.get 1 rfl) kc72.last.1) rfl ?_
        rintro e w13 ⟨rfl, hN⟩
        refine ⟨_, rfl, hN.sta0 _, ?_⟩; clear hE a; intro a hE
        replace hM : Mem _ _ w13 [_, _, _, _, _, _, _, _, _, _] := hM.call0 hN trivial; clear hN
        refine g_yes hE rfl rfl ?_
        refine s_bin hE rfl rfl (eqCl kc72.last kc72.last).2 rfl ?_; clear hE a; intro a hE
        refine s_pickf hE rfl rfl rfl ?_; clear hE a; intro a hE
        refine s_move hE rfl rfl ?_; clear hE a; intro a hE
        replace hE := hE.cast 106 rfl (show _ = Value.bool false from (congrArg Value.bool (by simp)))
        refine g_yes hE rfl rfl ?_
        refine s_move hE rfl rfl ?_; clear hE a; intro a hE
        refine g_yes hE rfl rfl ?_
        refine s_move hE rfl rfl ?_; clear hE a; intro a hE
        refine g_yes hE rfl rfl ?_
        refine s_nilCheck hE rfl rfl ?_; clear hE a; intro a hE
        refine g_yes hE rfl rfl ?_
        refine s_fieldAddr hE rfl fo53_2 rfl ?_; clear hE a; intro a hE
        refine g_yes hE rfl rfl ?_
        refine s_load1 hE rfl (hM.get 1 rfl) rfl one37 (by intro X h; cases h; simp) rfl ?_; clear hE a; intro a hE
        refine g_yes hE rfl rfl ?_
        obtain ⟨cr108, hr108⟩ := hv_rd (hM.get 4 rfl)
        refine s_call hE rfl Try.call11 (chist_c pc vc72 (gs) _ _ (hM.get 3 rfl) hr108 kc72.pos (by omega)) rfl ?_
        rintro e w14 ⟨vg, rfl, hN⟩
        refine ⟨_, rfl, hN.sta0 _, ?_⟩; clear hE a; intro a hE
        replace hM : Mem _ _ w14 [_, _, _, _, _, _, _, _, _, _, _] := hM.call0 hN ⟨rfl, trivial⟩; clear hN
        refine g_yes hE rfl rfl ?_
        obtain ⟨cg, hg⟩ := own_rd (hM.get 0 rfl)
        obtain ⟨cl, hl⟩ := own_rd (hM.get 3 rfl)
        refine s_call hE rfl Try.call17 (rsame_c _ _ (gs) _ _ _ hg hl kc72.ok (by omega)) rfl ?_
        rintro e w15 ⟨rfl, hN⟩
        refine ⟨_, rfl, hN.sta0 _, ?_⟩; clear hE a; intro a hE
        replace hM : Mem _ _ w15 [_, _, _, _, _, _, _, _, _, _, _] := hM.call0 hN trivial; clear hN
        refine g_yes hE rfl rfl ?_
        refine s_not hE rfl rfl ?_; clear hE a; intro a hE
        refine s_pickf hE rfl rfl rfl ?_; clear hE a; intro a hE
        refine q_nil ?_
        replace hE : Env a 126 [(1, _), (5, _), (7, _), (9, _), (10, _), (11, _), (12, _), (13, _), (14, _), (15, _), (16, _), (17, _), (49, _), (58, _), (92, _), (115, _)] := hE.sel [1, 5, 7, 9, 10, 11, 12, 13, 14, 15, 16, 17, 49, 58, 92, 115] rfl
        refine hK20 _ _ ?_
        replace hE := hE.cast 115 rfl (show _ = Value.bool false from (congrArg Value.bool (by rfl)))
        refine wp_cond_false (hE.eval rfl) ?_
        refine wp_skip ?_
        refine q_block_n ?_
        refine hK13 _ _ ?_
        refine wp_plain [true, true, true] rfl rfl ?_
        refine s_move hE rfl rfl ?_; clear hE a; intro a hE
        refine s_bin hE rfl rfl (bin_add (wrap_i64 (by omega) (by omega))) rfl ?_; clear hE a; intro a hE
        refine s_assign hE rfl rfl ?_; clear hE a; intro a hE
        refine q_nil ?_
        replace hE : Env a 126 [(1, _), (5, _), (7, _), (9, _), (10, _), (11, _), (12, _), (13, _), (14, _), (15, _), (16, _), (17, _), (49, _), (58, _), (92, _), (115, _)] := hE.sel [1, 5, 7, 9, 10, 11, 12, 13, 14, 15, 16, 17, 49, 58, 92, 115] rfl
        replace hE := hE.cast 11 rfl (show _ = Value.int .i64 ((i + 1 : Nat) : Int) from congrArg _ (by omega))
        replace hM : Mem _ _ w15 [_, _, _, _, _, _, _, _, _, _, _] := hM.pick [4, 5, 2, 3, 6, 7, 8, 9, 10, 0, 1] rfl
        replace hM : Mem _ _ w15 [_, _, _, _, _, _, _, _, _] := hM.pick [0, 1, 2, 3, 4, 5, 6, 7, 8] rfl
        exact ⟨i + 1, ⟨by omega, by omega, gs, os, _, _, _, _, _, _, _, _, _, _, kc72, ko, by omega, by omega, hE.sel [1, 5, 7, 9, 10, 11] rfl, hM⟩, by omega⟩
    · replace hE := hE'; clear hE'
      replace hb49 := of_decide_eq_false hb49
      refine wp_cond_false (hE.eval rfl) ?_
      refine wp_exit ?_
      refine q_then_e ?_
      refine q_then_e ?_
      refine q_block_x ?_
      refine hK9 _ _ ?_
      refine wp_seq_k (fun K13 hK13 => ?_)
      refine wp_drawnM hM (by kernel_rfl) (fun _ => False) [(0, true), (2, true), (3, true), (4, true), (5, true), (1, false), (6, false), (7, true), (8, false), (9, true), (10, true)] [(1, [(6, 1), (7, 6), (8, 7), (9, 8), (10, 1)]), (6, [(7, 6), (8, 7), (9, 8), (10, 6)]), (8, [(9, 8), (10, 8)])] (by kernel_rfl) rfl ?_
      intro w7 hM' hww7; clear hM; have hM := hM'; clear hM'
      refine s_move hE rfl rfl ?_; clear hE a; intro a hE
      refine s_move hE rfl rfl ?_; clear hE a; intro a hE
      refine s_nilCheck hE rfl rfl ?_; clear hE a; intro a hE
      refine s_fieldAddr hE rfl fo53_2 rfl ?_; clear hE a; intro a hE
      refine s_load1 hE rfl (hM.get 6 rfl) rfl one37 (by intro X h; cases h; simp) rfl ?_; clear hE a; intro a hE
      refine s_call hE rfl Try.call11 (chist_c po vo os _ _ (hM.get 4 rfl) (hM.get 5 rfl) ko.pos (by omega)) rfl ?_
      rintro e w8 ⟨vg, rfl, hN⟩
      refine ⟨_, rfl, hN.sta0 _, ?_⟩; clear hE a; intro a hE
      replace hM : Mem _ _ w8 [_, _, _, _, _, _, _, _, _, _] := hM.call0 hN ⟨rfl, trivial⟩; clear hN
      obtain ⟨cg, hg⟩ := own_rd (hM.get 0 rfl)
      obtain ⟨cl, hl⟩ := own_rd (hM.get 8 rfl)
      refine s_call hE rfl Try.call17 (rsame_c _ _ os _ _ _ hg hl ko.ok (by omega)) rfl ?_
      rintro e w9 ⟨rfl, hN⟩
      refine ⟨_, rfl, hN.sta0 _, ?_⟩; clear hE a; intro a hE
      replace hM : Mem _ _ w9 [_, _, _, _, _, _, _, _, _, _] := hM.call0 hN trivial; clear hN
      refine s_move hE rfl rfl ?_; clear hE a; intro a hE
      replace hE := hE.cast 123 rfl (show _ = Value.bool true from (congrArg Value.bool (by rfl)))
      refine g_yes hE rfl rfl ?_
      refine s_call hE rfl Try.call8 (works12_c _) rfl ?_
      rintro e w10 ⟨rfl, hN⟩
      refine ⟨_, rfl, hN.sta0 _, ?_⟩; clear hE a; intro a hE
      replace hM : Mem _ _ w10 [_, _, _, _, _, _, _, _, _, _] := hM.call0 hN trivial; clear hN
      refine s_pickt hE rfl rfl rfl ?_; clear hE a; intro a hE
      refine s_assign hE rfl rfl ?_; clear hE a; intro a hE
      refine q_nil ?_
      replace hE : Env a 126 [(1, _), (4, _), (5, _), (7, _), (11, _), (49, _)] := hE.sel [1, 4, 5, 7, 11, 49] rfl
      refine hK13 _ _ ?_
      refine wp_ret ?_
      refine f_ret1 hE rfl rfl ?_
      exact ⟨rfl, hM.nil⟩
  · replace hE := hE'; clear hE'
    replace hb46 := of_decide_eq_false hb46
    replace hb46 : ¬ i < ls.length := by omega
    refine g_no (b := false) hE rfl rfl rfl ?_; clear hE a; intro a hE
    refine g_no (b := false) hE rfl rfl rfl ?_; clear hE a; intro a hE
    refine s_pickf hE rfl rfl rfl ?_; clear hE a; intro a hE
    refine q_nil ?_
    replace hE : Env a 126 [(1, _), (5, _), (7, _), (9, _), (10, _), (11, _), (49, _)] := hE.sel [1, 5, 7, 9, 10, 11, 49] rfl
    refine hK12 _ _ ?_
    refine wp_cond_false (hE.eval rfl) ?_
    refine wp_exit ?_
    refine q_then_e ?_
    refine q_then_e ?_
    refine q_block_x ?_
    refine hK9 _ _ ?_
    refine wp_seq_k (fun K13 hK13 => ?_)
    refine wp_drawnM hM (by kernel_rfl) (fun _ => False) [(0, true), (2, true), (3, true), (4, true), (5, true), (1, false), (6, false), (7, true), (8, false), (9, true), (10, true)] [(1, [(6, 1), (7, 6), (8, 7), (9, 8), (10, 1)]), (6, [(7, 6), (8, 7), (9, 8), (10, 6)]), (8, [(9, 8), (10, 8)])] (by kernel_rfl) rfl ?_
    intro w7 hM' hww7; clear hM; have hM := hM'; clear hM'
    refine s_move hE rfl rfl ?_; clear hE a; intro a hE
    refine s_move hE rfl rfl ?_; clear hE a; intro a hE
    refine s_nilCheck hE rfl rfl ?_; clear hE a; intro a hE
    refine s_fieldAddr hE rfl fo53_2 rfl ?_; clear hE a; intro a hE
    refine s_load1 hE rfl (hM.get 6 rfl) rfl one37 (by intro X h; cases h; simp) rfl ?_; clear hE a; intro a hE
    refine s_call hE rfl Try.call11 (chist_c po vo os _ _ (hM.get 4 rfl) (hM.get 5 rfl) ko.pos (by omega)) rfl ?_
    rintro e w8 ⟨vg, rfl, hN⟩
    refine ⟨_, rfl, hN.sta0 _, ?_⟩; clear hE a; intro a hE
    replace hM : Mem _ _ w8 [_, _, _, _, _, _, _, _, _, _] := hM.call0 hN ⟨rfl, trivial⟩; clear hN
    obtain ⟨cg, hg⟩ := own_rd (hM.get 0 rfl)
    obtain ⟨cl, hl⟩ := own_rd (hM.get 8 rfl)
    refine s_call hE rfl Try.call17 (rsame_c _ _ os _ _ _ hg hl ko.ok (by omega)) rfl ?_
    rintro e w9 ⟨rfl, hN⟩
    refine ⟨_, rfl, hN.sta0 _, ?_⟩; clear hE a; intro a hE
    replace hM : Mem _ _ w9 [_, _, _, _, _, _, _, _, _, _] := hM.call0 hN trivial; clear hN
    refine s_move hE rfl rfl ?_; clear hE a; intro a hE
    replace hE := hE.cast 123 rfl (show _ = Value.bool true from (congrArg Value.bool (by rfl)))
    refine g_yes hE rfl rfl ?_
    refine s_call hE rfl Try.call8 (works12_c _) rfl ?_
    rintro e w10 ⟨rfl, hN⟩
    refine ⟨_, rfl, hN.sta0 _, ?_⟩; clear hE a; intro a hE
    replace hM : Mem _ _ w10 [_, _, _, _, _, _, _, _, _, _] := hM.call0 hN trivial; clear hN
    refine s_pickt hE rfl rfl rfl ?_; clear hE a; intro a hE
    refine s_assign hE rfl rfl ?_; clear hE a; intro a hE
    refine q_nil ?_
    replace hE : Env a 126 [(1, _), (4, _), (5, _), (7, _), (11, _), (49, _)] := hE.sel [1, 4, 5, 7, 11, 49] rfl
    refine hK13 _ _ ?_
    refine wp_ret ?_
    refine f_ret1 hE rfl rfl ?_
    exact ⟨rfl, hM.nil⟩
theorem cellPlays_c (c0 : Cl) (v1 : Value) (ls : List (Int × List UInt8)) (c1 : Nat) (w : World) (h0 : OkCl c0) (hr1 : (rd v1 33 ls.length c1 (ls.flatMap act)).holds w) (hls : ∀ t, t ∈ ls → t.2.length = 32) : Calls Try.prog 4 #[.agg (cl c0).toArray, v1] w fun e w' => e = .returned (.bool true) ∧ Mem w [] w' [] := by
  rcases Nat.lt_or_ge 4611686018427387904 c0.1 with h | h
  · exact cellPlays_bad c0 v1 ls c1 w h0 hr1 hls h
  · exact cellPlays_ok c0 v1 ls c1 w h0 hr1 hls h
set_option maxRecDepth 100000 in
theorem cellPlays_lifted (os : Os) (started : os.Started) (H : Type) (enc : TypeId × Value → H) :
    ReturnsInHanded {} Try.checked os 4 .any (Rows.cellPlaysSpec.pre6 enc Try.prog Try.f4 Rows.cellPlaysRow.domain false) (Rows.cellPlaysSpec.post enc Try.prog Try.f4 false true false false) := by
  refine law_lifted (C := Try.checked) (fn := Try.f4) (by kernel_rfl) started (by kernel_rfl) Try.func4 rfl (fun ds hl => ?_) rfl Try.underlying4 (by kernel_rfl) (of_decide_eq_true (by kernel_rfl)) (ChangeSpec.witness6 (enc := enc) (C := Try.checked) false ⟨#[], #[.agg (cl cl0).toArray, .slice none 0 0], []⟩ 8 (by kernel_rfl) (by kernel_rfl) (by kernel_rfl) (by kernel_rfl)) ?_
  · rw [Try.params4] at hl
    match ds, hl with
    | [_, _], _ => rfl
  · intro W base args ds ps hval hA hw
    rw [Try.params4] at hA hval hw
    obtain ⟨v0, vs0, d0, ds0, p0, q0, hargs, rfl, rfl, h0, r0⟩ := trodAll_cons hA
    obtain ⟨v1, vs1, d1, ds1, p1, q1, rfl, rfl, rfl, h1, r1⟩ := trodAll_cons r0
    obtain ⟨rfl, rfl, rfl⟩ := trodAll_nil r1
    obtain rfl : args = #[v0, v1] := by cases args; simp_all
    obtain ⟨c0, rfl, hc0⟩ := arg_cell (t0 := 22) (t1 := 24) Try.underlying26 (by kernel_rfl) (by kernel_rfl) Try.underlying22 Try.underlying24 Try.underlying5 (by kernel_rfl) (by kernel_rfl) (hval 0 26 v0 rfl rfl) h0 (fun m hm => hw m (by simp only [DataW.weightsEach, List.mem_append]; exact .inl hm))
    obtain ⟨ls1, k1, hr1, ht1, _⟩ := arg_rows (es := 33) Try.underlying40 (by kernel_rfl) (by kernel_rfl) (by decide) (by decide : 0 < 40) (dec_act (t0 := 3) (t1 := 24) Try.underlying47 (by kernel_rfl) (by kernel_rfl) Try.underlying3 Try.underlying24 Try.underlying5 (by kernel_rfl) (by kernel_rfl)) (hval 1 40 v1 rfl rfl) h1 (fun m hm => hw m (by simp only [DataW.weightsEach, List.mem_append]; exact .inr (.inl hm)))
    exact cellPlays_c c0 v1 ls1 k1 W hc0 hr1 ht1

/-- The statement. -/
theorem cellPlays_holds : Rows.CellPlaysSaid :=
  OpenClaim.holds_of_wide 4 Try.f4 rfl rfl rfl rfl rfl rfl rfl ⟨rfl, rfl, rfl, rfl, rfl⟩ rfl rfl rfl rfl rfl (by kernel_rfl) Try.func4 (by kernel_rfl)
    (of_decide_eq_true (by kernel_rfl)) (by unfold Func.isWrapper; first | (rw [if_pos (by decide +kernel)]; kernel_rfl) | (rw [if_neg (by decide +kernel)]; exact ⟨rfl, rfl⟩))
    (fun os started H enc _ => cellPlays_lifted os started H enc)
#print axioms cellPlays_holds
end Go.Proofs.Ytafokhpokeipkaa
