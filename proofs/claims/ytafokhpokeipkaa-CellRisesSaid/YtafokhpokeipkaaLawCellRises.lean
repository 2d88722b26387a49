/- CellRises of casematelaw12 returns true for whatever start and labels; they read behind the call as before. No condition. -/
import Derived.Test.YtafokhpokeipkaaLc
namespace Go.Proofs.Ytafokhpokeipkaa
open Go Go.Kx
open Go.ChangeShapes Go.WideShapes Go.ChangeAt Go.RowKit
theorem zero24 : Zero Try.prog 24 [bv (List.replicate 32 0)] := ⟨.agg ([bv (List.replicate 32 0)] : List (List Value)).flatten.toArray, by kernel_rfl, by kernel_rfl⟩
theorem sz24 : (Try.prog.info? 24).map (·.size) = some 32 := by kernel_rfl
theorem slt27 : slT Try.prog 27 = some 32 := by kernel_rfl
theorem eqa24 : ∀ {a b : List UInt8}, a.length = 32 → b.length = 32 → Bin Try.prog .eql 24 (.agg (bv a).toArray) (.agg (bv b).toArray) (.bool (decide (a = b))) ∧ Bin Try.prog .neq 24 (.agg (bv a).toArray) (.agg (bv b).toArray) (.bool (!decide (a = b))) := fun ha hb => bins_arr8 Try.underlying24 (by kernel_rfl) Try.underlying5 (by kernel_rfl) (by kernel_rfl) ha hb
theorem sz22 : (Try.prog.info? 22).map (·.size) = some 1 := by kernel_rfl
set_option maxHeartbeats 2000000 in
theorem cellRises_bad (c0 : Cl) (v1 : Value) (ts : List (List UInt8)) (c1 : Nat) (w : World) (h0 : OkCl c0) (hr1 : (rd v1 32 ts.length c1 (ts.flatMap bv)).holds w) (hts : ∀ t, t ∈ ts → t.length = 32) (hm : 4611686018427387904 < c0.1) : Calls Try.prog 3 #[.agg (cl c0).toArray, v1] w fun e w' => e = .returned (.bool true) ∧ Mem w [] w' [] := by
  have hM := Mem.startR1 hr1 rfl
  have hlc := rd_len hr1
  have eM : mostC = 4611686018427387904 := rfl
  have htl : ∀ t : List UInt8, t ∈ ts → (bv t).length = 32 := fun t ht => by rw [bv_length]; exact hts t ht
  refine f_enter 150 Try.func3 rfl rfl rfl ?_
  intro a hE
  replace hE : Env a 150 [(0, _), (1, _)] := hE
  refine wp_seq_k (fun K1 hK1 => ?_)
  refine wp_plain [false, true] rfl rfl ?_
  refine s_box (ss := [[.int .u64 (c0.1 : Int)], bv c0.2]) [1, 32] hE hM rfl (by simp [cl, Value.cells]) (by simp [h0.1]) rfl ?_; clear hE a; intro a b2 w1 hE hM'
  clear hM; have hM := hM'; clear hM'
  refine s_assign hE rfl rfl ?_; clear hE a; intro a hE
  refine q_nil ?_
  replace hE : Env a 150 [(1, _), (2, _), (4, _)] := hE.sel [1, 2, 4] rfl
  refine hK1 _ _ ?_
  refine wp_seq_k (fun K2 hK2 => ?_)
  refine wp_plain [true, false, true, true, true, true, true] rfl rfl ?_
  refine s_loadN hE rfl (hM.get 0 rfl) row26 rfl (by intro X h; cases h) rfl ?_; clear hE a; intro a hE
  replace hE := hE.cast 18 rfl (show _ = Value.agg (cl c0).toArray from by simp [cl])
  refine s_call hE rfl Try.call7 (cnew_bad c0 _ h0 hm) rfl ?_
  rintro e w2 ⟨rfl, hN⟩
  refine ⟨_, rfl, trivial, ?_⟩; clear hE a; intro a hE
  replace hM : Mem _ _ w2 [_, _] := hM.call0 hN trivial; clear hN
  refine s_move hE rfl rfl ?_; clear hE a; intro a hE
  refine s_extract hE rfl rfl rfl ?_; clear hE a; intro a hE
  refine s_extract hE rfl rfl rfl ?_; clear hE a; intro a hE
  refine s_assign hE rfl rfl ?_; clear hE a; intro a hE
  refine s_assign hE rfl rfl ?_; clear hE a; intro a hE
  refine q_nil ?_
  replace hE : Env a 150 [(1, _), (2, _), (4, _), (5, _), (6, _)] := hE.sel [1, 2, 4, 5, 6] rfl
  refine hK2 _ _ ?_
  refine wp_seq_k (fun K3 hK3 => ?_)
  refine wp_seq_k (fun K4 hK4 => ?_)
  refine wp_plain [true, true] rfl rfl ?_
  refine s_move hE rfl rfl ?_; clear hE a; intro a hE
  refine s_bin hE rfl rfl bin_neq rfl ?_; clear hE a; intro a hE
  refine q_nil ?_
  replace hE : Env a 150 [(1, _), (2, _), (4, _), (5, _), (23, _)] := hE.sel [1, 2, 4, 5, 23] rfl
  refine hK4 _ _ ?_
  replace hE := hE.cast 23 rfl (show _ = Value.bool true from (congrArg Value.bool (by rfl)))
  refine wp_cond_true (hE.eval rfl) ?_
  refine wp_seq_k (fun K5 hK5 => ?_)
  refine wp_plain [true, true, true, true, false, true, true] rfl rfl ?_
  refine s_fieldAddr hE rfl fo26_0 rfl ?_; clear hE a; intro a hE
  refine s_load1 hE rfl (hM.get 0 rfl) rfl one22 (by intro X h; cases h) rfl ?_; clear hE a; intro a hE
  refine s_bin hE rfl rfl bin_gtr rfl ?_; clear hE a; intro a hE
  refine s_move hE rfl rfl ?_; clear hE a; intro a hE
  replace hE := hE.cast 27 rfl (show _ = Value.bool true from (congrArg Value.bool (decide_eq_true (by omega))))
  refine g_yes hE rfl rfl ?_
  refine s_call hE rfl Try.call8 (works12_c _) rfl ?_
  rintro e w3 ⟨rfl, hN⟩
  refine ⟨_, rfl, trivial, ?_⟩; clear hE a; intro a hE
  replace hM : Mem _ _ w3 [_, _] := hM.call0 hN trivial; clear hN
  refine s_pickt hE rfl rfl rfl ?_; clear hE a; intro a hE
  refine s_assign hE rfl rfl ?_; clear hE a; intro a hE
  refine q_nil ?_
  replace hE : Env a 150 [(1, _), (2, _), (4, _), (5, _), (23, _)] := hE.sel [1, 2, 4, 5, 23] rfl
  refine hK5 _ _ ?_
  refine wp_ret ?_
  refine q_then_r ?_
  refine f_ret1 hE rfl rfl ?_
  exact ⟨rfl, hM.nil⟩
set_option maxHeartbeats 2000000 in
theorem cellRises_ok (c0 : Cl) (v1 : Value) (ts : List (List UInt8)) (c1 : Nat) (w : World) (h0 : OkCl c0) (hr1 : (rd v1 32 ts.length c1 (ts.flatMap bv)).holds w) (hts : ∀ t, t ∈ ts → t.length = 32) (hm : c0.1 ≤ 4611686018427387904) : Calls Try.prog 3 #[.agg (cl c0).toArray, v1] w fun e w' => e = .returned (.bool true) ∧ Mem w [] w' [] := by
  have hM := Mem.startR1 hr1 rfl
  have hlc := rd_len hr1
  have eM : mostC = 4611686018427387904 := rfl
  have htl : ∀ t : List UInt8, t ∈ ts → (bv t).length = 32 := fun t ht => by rw [bv_length]; exact hts t ht
  refine f_enter 150 Try.func3 rfl rfl rfl ?_
  intro a hE
  replace hE : Env a 150 [(0, _), (1, _)] := hE
  refine wp_seq_k (fun K1 hK1 => ?_)
  refine wp_plain [false, true] rfl rfl ?_
  refine s_box (ss := [[.int .u64 (c0.1 : Int)], bv c0.2]) [1, 32] hE hM rfl (by simp [cl, Value.cells]) (by simp [h0.1]) rfl ?_; clear hE a; intro a b2 w1 hE hM'
  clear hM; have hM := hM'; clear hM'
  refine s_assign hE rfl rfl ?_; clear hE a; intro a hE
  refine q_nil ?_
  replace hE : Env a 150 [(1, _), (2, _), (4, _)] := hE.sel [1, 2, 4] rfl
  refine hK1 _ _ ?_
  refine wp_seq_k (fun K2 hK2 => ?_)
  refine wp_plain [true, false, true, true, true, true, true] rfl rfl ?_
  refine s_loadN hE rfl (hM.get 0 rfl) row26 rfl (by intro X h; cases h) rfl ?_; clear hE a; intro a hE
  replace hE := hE.cast 18 rfl (show _ = Value.agg (cl c0).toArray from by simp [cl])
  refine s_call hE rfl Try.call7 (cnew_ok c0 _ h0 (by have e : mostC = 4611686018427387904 := rfl; omega)) rfl ?_
  rintro e w2 ⟨pc, bc, rfl, hN⟩
  refine ⟨_, rfl, trivial, ?_⟩; clear hE a; intro a hE
  replace hM : Mem _ _ w2 [_, _, _, _] := hM.call0 hN ⟨rfl, rfl, trivial⟩; clear hN
  have kc := OkH.one (c0 := c0) h0 (by have e : mostC = 4611686018427387904 := rfl; omega)
  refine s_move hE rfl rfl ?_; clear hE a; intro a hE
  refine s_extract hE rfl rfl rfl ?_; clear hE a; intro a hE
  refine s_extract hE rfl rfl rfl ?_; clear hE a; intro a hE
  refine s_assign hE rfl rfl ?_; clear hE a; intro a hE
  refine s_assign hE rfl rfl ?_; clear hE a; intro a hE
  refine q_nil ?_
  replace hE : Env a 150 [(1, _), (2, _), (4, _), (5, _), (6, _)] := hE.sel [1, 2, 4, 5, 6] rfl
  refine hK2 _ _ ?_
  refine wp_seq_k (fun K3 hK3 => ?_)
  refine wp_seq_k (fun K4 hK4 => ?_)
  refine wp_plain [true, true] rfl rfl ?_
  refine s_move hE rfl rfl ?_; clear hE a; intro a hE
  refine s_bin hE rfl rfl bin_neq rfl ?_; clear hE a; intro a hE
  refine q_nil ?_
  replace hE : Env a 150 [(1, _), (2, _), (4, _), (5, _), (23, _)] := hE.sel [1, 2, 4, 5, 23] rfl
  refine hK4 _ _ ?_
  replace hE := hE.cast 23 rfl (show _ = Value.bool false from (congrArg Value.bool (by rfl)))
  refine wp_cond_false (hE.eval rfl) ?_
  refine wp_skip ?_
  refine hK3 _ _ ?_
  refine wp_seq_k (fun K5 hK5 => ?_)
  refine wp_plain [true, true, true] rfl rfl ?_
  refine s_fieldAddr hE rfl fo26_0 rfl ?_; clear hE a; intro a hE
  refine s_load1 hE rfl (hM.get 2 rfl) rfl one22 (by intro X h; cases h) rfl ?_; clear hE a; intro a hE
  refine s_assign hE rfl rfl ?_; clear hE a; intro a hE
  refine q_nil ?_
  replace hE : Env a 150 [(1, _), (2, _), (4, _), (5, _), (7, _), (23, _)] := hE.sel [1, 2, 4, 5, 7, 23] rfl
  refine hK5 _ _ ?_
  refine wp_seq_k (fun K6 hK6 => ?_)
  refine wp_plain [true, true, false, false] rfl rfl ?_
  refine s_fieldAddr hE rfl fo26_1 rfl ?_; clear hE a; intro a hE
  refine s_loadN hE rfl (hM.get 2 rfl) row24 rfl (by intro X h; cases h) rfl ?_; clear hE a; intro a hE
  refine s_alloc [32] hE hM zero24 rfl rfl ?_; clear hE a; intro a b8 w3 hE hM'
  clear hM; have hM := hM'; clear hM'
  refine s_storeSeg 0 hE rfl rfl hM rfl sz24 (by simp [h0.1]) (bv_one _) rfl (by simp) rfl (by intro X h; cases h) ?_; intro w4 hM'; clear hM; have hM := hM'; clear hM'
  simp only [List.set_cons_zero, List.set_cons_succ] at hM
  refine q_nil ?_
  replace hE : Env a 150 [(1, _), (2, _), (4, _), (5, _), (7, _), (8, _), (23, _)] := hE.sel [1, 2, 4, 5, 7, 8, 23] rfl
  refine hK6 _ _ ?_
  refine wp_seq_k (fun K7 hK7 => ?_)
  refine wp_plain [true] rfl rfl ?_
  refine s_assign hE rfl rfl ?_; clear hE a; intro a hE
  refine q_nil ?_
  refine hK7 _ _ ?_
  refine wp_seq_k (fun K8 hK8 => ?_)
  refine wp_seq_k (fun K9 hK9 => ?_)
  refine wp_plain [true] rfl rfl ?_
  refine s_assign hE rfl rfl ?_; clear hE a; intro a hE
  refine q_nil ?_
  refine hK9 _ _ ?_
  refine wp_block ?_
  replace hE := hE.cast 7 rfl (show _ = Value.int .u64 ((lst [c0]).1 : Int) from rfl)
  replace hM : Mem _ _ w4 [_, _, _, _, _] := hM.pick [1, 2, 0, 4, 3] rfl
  refine c_loop (fun (i : Nat) a w' => i ≤ ts.length ∧ i ≤ 60 ∧ ∃ vc, Env a 150 [(1, v1), (2, .pointer (some ⟨b2, 0, none⟩)), (5, .pointer (some ⟨pc, 0, none⟩)), (7, .int .u64 ((lst (histL c0 (ts.take i))).1 : Int)), (8, .pointer (some ⟨b8, 0, none⟩)), (9, .int .i64 ((histL c0 (ts.take i)).length : Int)), (10, .int .i64 (i : Int))] ∧ Mem w [] w' [blk pc [[vc]] [1] 56, own vc 33 (histL c0 (ts.take i)).length (cls (histL c0 (ts.take i))), blk b8 [bv (lst (histL c0 (ts.take i))).2] [32] 24, rd v1 32 ts.length c1 (ts.flatMap bv), blk b2 [[.int .u64 (c0.1 : Int)], bv c0.2] [1, 32] 26]) (fun i => 60 - i) 0 ⟨Nat.zero_le _, Nat.zero_le _, _, hE.sel [1, 2, 5, 7, 8, 9, 10] rfl, hM⟩ ?_
  clear hE hM a; rintro i a w5 ⟨hi, hi2, vc, hE, hM⟩
  refine wp_seq_k (fun K10 hK10 => ?_)
  refine wp_seq_k (fun K11 hK11 => ?_)
  refine wp_plain [true, true, true, true, true, true, true, true] rfl rfl ?_
  refine s_move hE rfl rfl ?_; clear hE a; intro a hE
  refine s_move hE rfl rfl ?_; clear hE a; intro a hE
  refine s_len hE rfl Try.underlying27 (rd_slice (hM.get 3 rfl)) rfl ?_; clear hE a; intro a hE
  refine s_bin hE rfl rfl bin_lss rfl ?_; clear hE a; intro a hE
  refine s_move hE rfl rfl ?_; clear hE a; intro a hE
  refine hE.split 38 rfl (fun hb38 hE' => ?_) (fun hb38 hE' => ?_)
  · replace hE := hE'; clear hE'
    replace hb38 := of_decide_eq_true hb38
    replace hb38 : i < ts.length := by omega
    refine g_yes hE rfl rfl ?_
    refine s_move hE rfl rfl ?_; clear hE a; intro a hE
    refine g_yes hE rfl rfl ?_
    refine s_bin hE rfl rfl bin_lss rfl ?_; clear hE a; intro a hE
    refine s_pickt hE rfl rfl rfl ?_; clear hE a; intro a hE
    refine q_nil ?_
    replace hE : Env a 150 [(1, _), (2, _), (5, _), (7, _), (8, _), (9, _), (10, _), (41, _)] := hE.sel [1, 2, 5, 7, 8, 9, 10, 41] rfl
    refine hK11 _ _ ?_
    refine hE.split 41 rfl (fun hb41 hE' => ?_) (fun hb41 hE' => ?_)
    · replace hE := hE'; clear hE'
      replace hb41 := of_decide_eq_true hb41
      have hlab := ts_get hts hb38
      obtain ⟨kc, kl⟩ := OkH.hist h0 (show c0.1 ≤ mostC from by omega) i ts hts
      refine wp_cond_true (hE.eval rfl) ?_
      refine wp_skip ?_
      refine hK10 _ _ ?_
      refine wp_seq_k (fun K12 hK12 => ?_)
      refine wp_block ?_
      refine wp_seq_k (fun K13 hK13 => ?_)
      refine wp_plain [true, true, true, true, true, false, true, true, true, true, true] rfl rfl ?_
      refine s_move hE rfl rfl ?_; clear hE a; intro a hE
      refine s_move hE rfl rfl ?_; clear hE a; intro a hE
      refine s_move hE rfl rfl ?_; clear hE a; intro a hE
      refine s_indexRd (j := i) hE rfl (hM.get 3 rfl) rfl slt27 (by first | rfl | omega) (by first | omega | (simp; omega) | decide) rfl ?_; clear hE a; intro a p48 hE hc48 hp48
      rw [flat_elem (d := []) htl hb38] at hc48
      refine s_loadAtN hE rfl hc48 (by rw [bv_length, hlab]; exact row24) (by intro X h; cases h) rfl ?_; clear hE a; intro a hE
      have hap := apart_of_get hM.apart (i := 0) (j := 1) rfl rfl (by decide)
      refine s_call hE rfl Try.call9 (cadvO_c pc vc (histL c0 (ts.take i)) (ts.getD i []) _ (hM.get 0 rfl) (hM.get 1 rfl) (hap.1 _ (.head _)).1 kc.ok kc.pos (by first | omega | decide) hlab kc.top) rfl ?_; clear hap
      rintro e w6 ⟨vc50, rfl, hN⟩
      refine ⟨_, rfl, trivial, ?_⟩; clear hE a; intro a hE
      replace hM : Mem _ _ w6 [_, _, _, _, _] := hM.call2 hN ⟨rfl, rfl, trivial⟩; clear hN
      have kc50 := kc.adv (lab := (ts.getD i [])) hlab
      have kl2 := (advL_len (histL c0 (ts.take i)) (ts.getD i [])).1
      refine s_move hE rfl rfl ?_; clear hE a; intro a hE
      refine s_extract hE rfl rfl rfl ?_; clear hE a; intro a hE
      refine s_extract hE rfl rfl rfl ?_; clear hE a; intro a hE
      refine s_assign hE rfl rfl ?_; clear hE a; intro a hE
      refine s_assign hE rfl rfl ?_; clear hE a; intro a hE
      refine q_nil ?_
      replace hE : Env a 150 [(1, _), (2, _), (5, _), (7, _), (8, _), (9, _), (10, _), (11, _), (12, _), (41, _)] := hE.sel [1, 2, 5, 7, 8, 9, 10, 11, 12, 41] rfl
      refine hK13 _ _ ?_
      refine wp_seq_k (fun K14 hK14 => ?_)
      refine wp_seq_k (fun K15 hK15 => ?_)
      refine wp_plain [true, true] rfl rfl ?_
      refine s_move hE rfl rfl ?_; clear hE a; intro a hE
      refine s_bin hE rfl rfl bin_eql rfl ?_; clear hE a; intro a hE
      refine q_nil ?_
      replace hE : Env a 150 [(1, _), (2, _), (5, _), (7, _), (8, _), (9, _), (10, _), (11, _), (12, _), (41, _), (54, _)] := hE.sel [1, 2, 5, 7, 8, 9, 10, 11, 12, 41, 54] rfl
      refine hK15 _ _ ?_
      refine hE.split 54 rfl (fun hb54 hE' => ?_) (fun hb54 hE' => ?_)
      · replace hE := hE'; clear hE'
        have hlt := advE_true hb54
        refine wp_cond_true (hE.eval rfl) ?_
        refine wp_seq_k (fun K16 hK16 => ?_)
        refine wp_seq_k (fun K17 hK17 => ?_)
        refine wp_plain [true, true, true, true, true, true, true, true] rfl rfl ?_
        refine s_move hE rfl rfl ?_; clear hE a; intro a hE
        refine s_move hE rfl rfl ?_; clear hE a; intro a hE
        refine s_bin hE rfl rfl (show Bin _ _ _ _ _ (.int .u64 (((lst (histL c0 (ts.take i))).1 + 1 : Nat) : Int)) from bin_add (by rw [wrap_u64 (by omega) (by omega)]; omega)) rfl ?_; clear hE a; intro a hE
        refine s_bin hE rfl rfl bin_neq rfl ?_; clear hE a; intro a hE
        refine s_move hE rfl rfl ?_; clear hE a; intro a hE
        replace hE := hE.cast 59 rfl (show _ = Value.bool false from (congrArg Value.bool (by rw [advN_lt hlt]; simp)))
        refine g_yes hE rfl rfl ?_
        refine s_move hE rfl rfl ?_; clear hE a; intro a hE
        refine g_yes hE rfl rfl ?_
        refine s_bin hE rfl rfl bin_gtr rfl ?_; clear hE a; intro a hE
        refine s_pickf hE rfl rfl rfl ?_; clear hE a; intro a hE
        refine q_nil ?_
        replace hE : Env a 150 [(1, _), (2, _), (5, _), (7, _), (8, _), (9, _), (10, _), (11, _), (12, _), (41, _), (54, _), (62, _)] := hE.sel [1, 2, 5, 7, 8, 9, 10, 11, 12, 41, 54, 62] rfl
        refine hK17 _ _ ?_
        replace hE := hE.cast 62 rfl (show _ = Value.bool false from (congrArg Value.bool (by rw [advN_lt hlt]; exact decide_eq_false (by omega))))
        refine wp_cond_false (hE.eval rfl) ?_
        refine wp_skip ?_
        refine hK16 _ _ ?_
        refine wp_seq_k (fun K18 hK18 => ?_)
        refine wp_plain [true, true] rfl rfl ?_
        refine s_move hE rfl rfl ?_; clear hE a; intro a hE
        refine s_assign hE rfl rfl ?_; clear hE a; intro a hE
        refine q_nil ?_
        replace hE : Env a 150 [(1, _), (2, _), (5, _), (7, _), (8, _), (9, _), (10, _), (11, _), (12, _), (41, _), (54, _), (62, _)] := hE.sel [1, 2, 5, 7, 8, 9, 10, 11, 12, 41, 54, 62] rfl
        refine hK18 _ _ ?_
        refine wp_seq_k (fun K19 hK19 => ?_)
        refine wp_plain [true, true, true, true, false] rfl rfl ?_
        refine s_move hE rfl rfl ?_; clear hE a; intro a hE
        refine s_move hE rfl rfl ?_; clear hE a; intro a hE
        refine s_indexRd (j := i) hE rfl (hM.get 3 rfl) rfl slt27 (by first | rfl | omega) (by first | omega | (simp; omega) | decide) rfl ?_; clear hE a; intro a p66 hE hc66 hp66
        rw [flat_elem (d := []) htl hb38] at hc66
        refine s_loadAtN hE rfl hc66 (by rw [bv_length, hlab]; exact row24) (by intro X h; cases h) rfl ?_; clear hE a; intro a hE
        replace hM : Mem _ _ w6 [_, _, _, _, _] := hM.pick [2, 0, 1, 3, 4] rfl
        refine s_storeSeg 0 hE rfl rfl hM rfl sz24 (by simpa using hlab) (bv_one _) rfl (by simp [kc.last.1]) rfl (by intro X h; cases h) ?_; intro w7 hM'; clear hM; have hM := hM'; clear hM'
        simp only [List.set_cons_zero, List.set_cons_succ] at hM
        refine q_nil ?_
        replace hE : Env a 150 [(1, _), (2, _), (5, _), (7, _), (8, _), (9, _), (10, _), (11, _), (12, _), (41, _), (54, _), (62, _)] := hE.sel [1, 2, 5, 7, 8, 9, 10, 11, 12, 41, 54, 62] rfl
        refine hK19 _ _ ?_
        refine wp_plain [true, true, true] rfl rfl ?_
        refine s_move hE rfl rfl ?_; clear hE a; intro a hE
        refine s_bin hE rfl rfl (bin_add (wrap_i64 (by omega) (by omega))) rfl ?_; clear hE a; intro a hE
        refine s_assign hE rfl rfl ?_; clear hE a; intro a hE
        replace hE := hE.cast 7 rfl (show _ = Value.int .u64 ((lst (advL (histL c0 (ts.take i)) (ts.getD i []))).1 : Int) from by rw [lst_lt hlt, advN_lt hlt]; rfl)
        replace hE := hE.cast 9 rfl (show _ = Value.int .i64 ((advL (histL c0 (ts.take i)) (ts.getD i [])).length : Int) from by rw [len_lt hlt]; rfl)
        rw [show bv (ts.getD i []) = bv (lst (advL (histL c0 (ts.take i)) (ts.getD i []))).2 from by rw [lst_lt hlt]] at hM
        have hsc := hist_succ (c0 := c0) (ts := ts) hb38
        generalize advL (histL c0 (ts.take i)) (ts.getD i []) = gs at *
        refine q_nil ?_
        replace hE : Env a 150 [(1, _), (2, _), (5, _), (7, _), (8, _), (9, _), (10, _), (11, _), (12, _), (41, _), (54, _), (62, _)] := hE.sel [1, 2, 5, 7, 8, 9, 10, 11, 12, 41, 54, 62] rfl
        refine hK14 _ _ ?_
        refine wp_seq_k (fun K20 hK20 => ?_)
        refine wp_plain [true, false, true, true, true, false, false, true] rfl rfl ?_
        refine s_move hE rfl rfl ?_; clear hE a; intro a hE
        have h32 := kc50.last.1
        obtain ⟨crd82, hrd82⟩ := own_rd (hM.get 2 rfl)
        refine s_call hE rfl Try.call10 (cread_c pc vc50 (gs) _ _ (hM.get 1 rfl) hrd82 kc50.ok kc50.pos (by first | omega | decide)) rfl ?_
        rintro e w8 ⟨rfl, hN⟩
        refine ⟨_, rfl, trivial, ?_⟩; clear hE a; intro a hE
        replace hM : Mem _ _ w8 [_, _, _, _, _] := hM.call0 hN trivial; clear hN
        refine s_move hE rfl rfl ?_; clear hE a; intro a hE
        refine s_extract hE rfl rfl rfl ?_; clear hE a; intro a hE
        refine s_extract hE rfl rfl rfl ?_; clear hE a; intro a hE
        refine s_alloc [1, 32] hE hM zero26 rfl rfl ?_; clear hE a; intro a b13 w9 hE hM'
        clear hM; have hM := hM'; clear hM'
        refine s_storeSegs 0 2 (vss := [[.int .u64 ((lst (gs)).1 : Int)], bv (lst (gs)).2]) hE rfl rfl hM (show (Value.agg (cl (lst (gs))).toArray).cells = _ by simp [Value.cells, cl]) sz26 (by simp [kc50.last.1]) (by decide) rfl (one_fl ⟨one1 rfl, bv_one _, trivial⟩) rfl (by intro X h; cases h) ?_; intro w10 hM'; clear hM; have hM := hM'; clear hM'
        simp only [List.take_zero, List.take_succ_cons, List.drop_zero, List.drop_succ_cons, List.take_nil, List.drop_nil, List.nil_append, List.append_nil, List.cons_append] at hM
        refine s_assign hE rfl rfl ?_; clear hE a; intro a hE
        refine q_nil ?_
        replace hE : Env a 150 [(1, _), (2, _), (5, _), (7, _), (8, _), (9, _), (10, _), (11, _), (12, _), (13, _), (14, _), (41, _), (54, _), (62, _)] := hE.sel [1, 2, 5, 7, 8, 9, 10, 11, 12, 13, 14, 41, 54, 62] rfl
        refine hK20 _ _ ?_
        refine wp_seq_k (fun K21 hK21 => ?_)
        refine wp_plain [true, false, true] rfl rfl ?_
        refine s_move hE rfl rfl ?_; clear hE a; intro a hE
        obtain ⟨crh, hrh⟩ := own_rd (hM.get 3 rfl)
        refine s_call hE rfl Try.call11 (chist_c pc vc50 (gs) _ _ (hM.get 2 rfl) hrh kc50.pos (by omega)) rfl ?_
        rintro e w11 ⟨vlh, rfl, hN⟩
        refine ⟨_, rfl, trivial, ?_⟩; clear hE a; intro a hE
        replace hM : Mem _ _ w11 [_, _, _, _, _, _, _] := hM.call0 hN ⟨rfl, trivial⟩; clear hN
        have hpos := kc50.pos
        refine s_assign hE rfl rfl ?_; clear hE a; intro a hE
        refine q_nil ?_
        replace hE : Env a 150 [(1, _), (2, _), (5, _), (7, _), (8, _), (9, _), (10, _), (11, _), (12, _), (13, _), (14, _), (15, _), (41, _), (54, _), (62, _)] := hE.sel [1, 2, 5, 7, 8, 9, 10, 11, 12, 13, 14, 15, 41, 54, 62] rfl
        refine hK21 _ _ ?_
        refine wp_seq_k (fun K22 hK22 => ?_)
        refine wp_seq_k (fun K23 hK23 => ?_)
        refine wp_drawnM hM (by kernel_rfl) (fun _ => False) [(0, true), (1, true), (2, true), (3, true), (4, true), (5, true), (6, true), (7, true), (8, true), (9, true), (10, true), (11, true), (12, true), (13, true), (14, true), (15, true), (16, true), (17, true), (18, true), (19, true), (20, true), (21, true), (22, true), (23, true), (24, true), (25, true), (26, true), (27, true), (28, true), (29, true), (30, true), (31, true), (32, true), (33, true), (34, true), (35, true)] [] (by kernel_rfl) rfl ?_
        intro w12 hM' hww12; clear hM; have hM := hM'; clear hM'
        refine s_move hE rfl rfl ?_; clear hE a; intro a hE
        refine s_bin hE rfl rfl bin_neq rfl ?_; clear hE a; intro a hE
        refine s_move hE rfl rfl ?_; clear hE a; intro a hE
        replace hE := hE.cast 89 rfl (show _ = Value.bool false from (congrArg Value.bool (by rfl)))
        refine g_yes hE rfl rfl ?_
        refine s_fieldAddr hE rfl fo26_0 rfl ?_; clear hE a; intro a hE
        refine g_yes hE rfl rfl ?_
        refine s_load1 hE rfl (hM.get 1 rfl) rfl one22 (by intro X h; cases h; simp) rfl ?_; clear hE a; intro a hE
        refine g_yes hE rfl rfl ?_
        refine s_move hE rfl rfl ?_; clear hE a; intro a hE
        refine g_yes hE rfl rfl ?_
        refine s_bin hE rfl rfl bin_neq rfl ?_; clear hE a; intro a hE
        refine s_pickf hE rfl rfl rfl ?_; clear hE a; intro a hE
        refine s_move hE rfl rfl ?_; clear hE a; intro a hE
        replace hE := hE.cast 95 rfl (show _ = Value.bool false from (congrArg Value.bool (by simp [lst, kc50.first])))
        refine g_yes hE rfl rfl ?_
        refine s_fieldAddr hE rfl fo26_1 rfl ?_; clear hE a; intro a hE
        refine g_yes hE rfl rfl ?_
        refine s_loadN hE rfl (hM.get 1 rfl) row24 rfl (by intro X h; cases h; simp) rfl ?_; clear hE a; intro a hE
        refine g_yes hE rfl rfl ?_
        refine s_loadN hE rfl (hM.get 2 rfl) row24 rfl (by intro X h; cases h; simp) rfl ?_; clear hE a; intro a hE
        refine g_yes hE rfl rfl ?_
        refine s_bin hE rfl rfl (eqa24 (by first | simp | assumption) (by first | simp | assumption)).2 rfl ?_; clear hE a; intro a hE
        refine s_pickf hE rfl rfl rfl ?_; clear hE a; intro a hE
        refine s_move hE rfl rfl ?_; clear hE a; intro a hE
        replace hE := hE.cast 101 rfl (show _ = Value.bool false from (congrArg Value.bool (by simp [lst, kc50.first])))
        refine g_yes hE rfl rfl ?_
        refine s_move hE rfl rfl ?_; clear hE a; intro a hE
        refine g_yes hE rfl rfl ?_
        refine s_len hE rfl Try.underlying37 (own_slice (hM.get 0 rfl)) rfl ?_; clear hE a; intro a hE
        refine g_yes hE rfl rfl ?_
        refine s_move hE rfl rfl ?_; clear hE a; intro a hE
        refine g_yes hE rfl rfl ?_
        refine s_bin hE rfl rfl bin_neq rfl ?_; clear hE a; intro a hE
        refine s_pickf hE rfl rfl rfl ?_; clear hE a; intro a hE
        refine s_move hE rfl rfl ?_; clear hE a; intro a hE
        replace hE := hE.cast 107 rfl (show _ = Value.bool false from (congrArg Value.bool (by simp [lst, kc50.first])))
        refine g_yes hE rfl rfl ?_
        refine s_move hE rfl rfl ?_; clear hE a; intro a hE
        refine g_yes hE rfl rfl ?_
        refine s_move hE rfl rfl ?_; clear hE a; intro a hE
        refine g_yes hE rfl rfl ?_
        refine s_bin hE rfl rfl (bin_sub (wrap_i64 (by omega) (by omega))) rfl ?_; clear hE a; intro a hE
        refine g_yes hE rfl rfl ?_
        obtain ⟨cx111, hx111⟩ := own_rd (hM.get 0 rfl)
        refine s_indexRd (j := ((gs).length - 1)) hE rfl hx111 rfl slt37 (by first | rfl | omega) (by first | omega | (simp; omega) | decide) rfl ?_; clear hE a; intro a p111 hE hc111 hp111
        rw [cls_elem kc50.ok (by omega)] at hc111
        refine g_yes hE rfl rfl ?_
        refine s_loadAtN hE rfl hc111 (by rw [cl_len (kc50.get (by omega))]; exact row26) (by intro X h; cases h; simp) rfl ?_; clear hE a; intro a hE
        refine g_yes hE rfl rfl ?_
        refine s_loadN hE rfl (hM.get 1 rfl) row26 rfl (by intro X h; cases h; simp) rfl ?_; clear hE a; intro a hE
        replace hE := hE.cast 113 rfl (show _ = Value.agg (cl (lst (gs))).toArray from by simp [cl])
        refine g_yes hE rfl rfl ?_
        refine s_bin hE rfl rfl (eqCl (kc50.get (by omega)) kc50.last).2 rfl ?_; clear hE a; intro a hE
        refine s_pickf hE rfl rfl rfl ?_; clear hE a; intro a hE
        refine s_move hE rfl rfl ?_; clear hE a; intro a hE
        replace hE := hE.cast 116 rfl (show _ = Value.bool false from (congrArg Value.bool (by simp [lst, kc50.first])))
        refine g_yes hE rfl rfl ?_
        refine s_move hE rfl rfl ?_; clear hE a; intro a hE
        refine g_yes hE rfl rfl ?_
        obtain ⟨cx118, hx118⟩ := own_rd (hM.get 0 rfl)
        refine s_indexRd (j := 0) hE rfl hx118 rfl slt37 (by first | rfl | omega) (by first | omega | (simp; omega) | decide) rfl ?_; clear hE a; intro a p118 hE hc118 hp118
        rw [cls_elem kc50.ok (by omega), kc50.first] at hc118
        refine g_yes hE rfl rfl ?_
        refine s_loadAtN hE rfl hc118 (by rw [cl_len h0]; exact row26) (by intro X h; cases h; simp) rfl ?_; clear hE a; intro a hE
        refine g_yes hE rfl rfl ?_
        refine s_loadN hE rfl (hM.get 6 rfl) row26 rfl (by intro X h; cases h; simp) rfl ?_; clear hE a; intro a hE
        replace hE := hE.cast 120 rfl (show _ = Value.agg (cl c0).toArray from by simp [cl])
        refine g_yes hE rfl rfl ?_
        refine s_bin hE rfl rfl (eqCl h0 h0).2 rfl ?_; clear hE a; intro a hE
        refine s_pickf hE rfl rfl rfl ?_; clear hE a; intro a hE
        refine q_nil ?_
        replace hE : Env a 150 [(1, _), (2, _), (5, _), (7, _), (8, _), (9, _), (10, _), (11, _), (12, _), (13, _), (14, _), (15, _), (41, _), (54, _), (62, _), (122, _)] := hE.sel [1, 2, 5, 7, 8, 9, 10, 11, 12, 13, 14, 15, 41, 54, 62, 122] rfl
        refine hK23 _ _ ?_
        replace hE := hE.cast 122 rfl (show _ = Value.bool false from (congrArg Value.bool (by simp [lst, kc50.first])))
        refine wp_cond_false (hE.eval rfl) ?_
        refine wp_skip ?_
        refine hK22 _ _ ?_
        refine wp_seq_k (fun K24 hK24 => ?_)
        refine wp_seq_k (fun K25 hK25 => ?_)
        refine wp_plain [true] rfl rfl ?_
        refine s_assign hE rfl rfl ?_; clear hE a; intro a hE
        refine q_nil ?_
        refine hK25 _ _ ?_
        refine wp_block ?_
        replace hM : Mem _ _ w12 [_, _, _, _, _, _, _] := hM.pick [0, 3, 4, 2, 5, 6, 1] rfl
        replace hM : Mem _ _ w12 [_, _, _, _, _, _] := hM.pick [0, 1, 2, 3, 4, 5] rfl
        refine c_loop (fun (k : Nat) a w' => k ≤ (gs).length - 1 ∧ Env a 150 [(1, v1), (2, .pointer (some ⟨b2, 0, none⟩)), (5, .pointer (some ⟨pc, 0, none⟩)), (7, .int .u64 ((lst (gs)).1 : Int)), (8, .pointer (some ⟨b8, 0, none⟩)), (9, .int .i64 ((gs).length : Int)), (10, .int .i64 (i : Int)), (15, vlh), (16, .int .i64 ((k + 1 : Nat) : Int))] ∧ Mem w [] w' [own vlh 33 (gs).length (cls (gs)), blk pc [[vc50]] [1] 56, own vc50 33 (gs).length (cls (gs)), blk b8 [bv (lst (gs)).2] [32] 24, rd v1 32 ts.length c1 (ts.flatMap bv), blk b2 [[.int .u64 (c0.1 : Int)], bv c0.2] [1, 32] 26]) (fun k => (gs).length - 1 - k) 0 ⟨Nat.zero_le _, hE.sel [1, 2, 5, 7, 8, 9, 10, 15, 16] rfl, hM⟩ ?_
        clear hE hM a; rintro k a w13 ⟨hk, hE, hM⟩
        refine wp_seq_k (fun K26 hK26 => ?_)
        refine wp_seq_k (fun K27 hK27 => ?_)
        refine wp_plain [true, true, true, true] rfl rfl ?_
        refine s_move hE rfl rfl ?_; clear hE a; intro a hE
        refine s_move hE rfl rfl ?_; clear hE a; intro a hE
        refine s_len hE rfl Try.underlying37 (own_slice (hM.get 0 rfl)) rfl ?_; clear hE a; intro a hE
        refine s_bin hE rfl rfl bin_lss rfl ?_; clear hE a; intro a hE
        refine q_nil ?_
        replace hE : Env a 150 [(1, _), (2, _), (5, _), (7, _), (8, _), (9, _), (10, _), (15, _), (16, _), (126, _)] := hE.sel [1, 2, 5, 7, 8, 9, 10, 15, 16, 126] rfl
        refine hK27 _ _ ?_
        refine hE.split 126 rfl (fun hb126 hE' => ?_) (fun hb126 hE' => ?_)
        · replace hE := hE'; clear hE'
          replace hb126 := of_decide_eq_true hb126
          replace hb126 : k < (gs).length - 1 := by omega
          refine wp_cond_true (hE.eval rfl) ?_
          refine wp_skip ?_
          refine hK26 _ _ ?_
          refine wp_seq_k (fun K28 hK28 => ?_)
          refine wp_block ?_
          refine wp_seq_k (fun K29 hK29 => ?_)
          refine wp_drawnM hM (by kernel_rfl) (fun _ => False) [(0, true), (1, true), (2, true), (3, true), (4, true), (5, true), (6, true), (7, true), (8, true), (9, true), (10, true), (11, true), (12, true)] [] (by kernel_rfl) rfl ?_
          intro w14 hM' hww14; clear hM; have hM := hM'; clear hM'
          refine s_move hE rfl rfl ?_; clear hE a; intro a hE
          refine s_move hE rfl rfl ?_; clear hE a; intro a hE
          obtain ⟨cx131, hx131⟩ := own_rd (hM.get 0 rfl)
          refine s_indexRd (j := (k + 1)) hE rfl hx131 rfl slt37 (by first | rfl | omega) (by first | omega | (simp; omega) | decide) rfl ?_; clear hE a; intro a p131 hE hc131 hp131
          rw [cls_elem kc50.ok (by omega)] at hc131
          refine s_fieldAtN (m := 1) hE rfl hc131 fo26_0 rfl ?_; clear hE a; intro a p132 hE hc132 hp132
          replace hc132 : (cellsAt p132 [.int .u64 (((gs).getD (k + 1) cl0).1 : Int)]).holds w14 := by simpa [cl] using hc132
          refine s_loadAt1 hE rfl hc132 one22 (by intro X h; cases h; simp) rfl ?_; clear hE a; intro a hE
          refine s_move hE rfl rfl ?_; clear hE a; intro a hE
          refine s_move hE rfl rfl ?_; clear hE a; intro a hE
          refine s_bin hE rfl rfl (bin_sub (wrap_i64 (by omega) (by omega))) rfl ?_; clear hE a; intro a hE
          obtain ⟨cx137, hx137⟩ := own_rd (hM.get 0 rfl)
          refine s_indexRd (j := k) hE rfl hx137 rfl slt37 (by first | rfl | omega) (by first | omega | (simp; omega) | decide) rfl ?_; clear hE a; intro a p137 hE hc137 hp137
          rw [cls_elem kc50.ok (by omega)] at hc137
          refine s_fieldAtN (m := 1) hE rfl hc137 fo26_0 rfl ?_; clear hE a; intro a p138 hE hc138 hp138
          replace hc138 : (cellsAt p138 [.int .u64 (((gs).getD k cl0).1 : Int)]).holds w14 := by simpa [cl] using hc138
          refine s_loadAt1 hE rfl hc138 one22 (by intro X h; cases h; simp) rfl ?_; clear hE a; intro a hE
          refine s_bin hE rfl rfl (show Bin _ _ _ _ _ (.int .u64 ((((gs).getD k cl0).1 + 1 : Nat) : Int)) from bin_add (by have h1 := (kc50.get (i := k + 1) (by omega)).2; have h2 := kc50.step (k + 1) (by omega) (by omega); rw [Nat.add_sub_cancel] at h2; rw [wrap_u64 (by omega) (by omega)]; omega)) rfl ?_; clear hE a; intro a hE
          refine s_bin hE rfl rfl bin_neq rfl ?_; clear hE a; intro a hE
          refine q_nil ?_
          replace hE : Env a 150 [(1, _), (2, _), (5, _), (7, _), (8, _), (9, _), (10, _), (15, _), (16, _), (126, _), (141, _)] := hE.sel [1, 2, 5, 7, 8, 9, 10, 15, 16, 126, 141] rfl
          refine hK29 _ _ ?_
          replace hE := hE.cast 141 rfl (show _ = Value.bool false from (congrArg Value.bool (by rw [kc50.step (k + 1) (by omega) (by omega)]; simp)))
          refine wp_cond_false (hE.eval rfl) ?_
          refine wp_skip ?_
          refine q_block_n ?_
          refine hK28 _ _ ?_
          refine wp_plain [true, true, true] rfl rfl ?_
          refine s_move hE rfl rfl ?_; clear hE a; intro a hE
          refine s_bin hE rfl rfl (bin_add (wrap_i64 (by omega) (by omega))) rfl ?_; clear hE a; intro a hE
          refine s_assign hE rfl rfl ?_; clear hE a; intro a hE
          refine q_nil ?_
          replace hE : Env a 150 [(1, _), (2, _), (5, _), (7, _), (8, _), (9, _), (10, _), (15, _), (16, _), (126, _), (141, _)] := hE.sel [1, 2, 5, 7, 8, 9, 10, 15, 16, 126, 141] rfl
          replace hE := hE.cast 16 rfl (show _ = Value.int .i64 (((k + 1) + 1 : Nat) : Int) from congrArg _ (by omega))
          exact ⟨k + 1, ⟨by omega, hE.sel [1, 2, 5, 7, 8, 9, 10, 15, 16] rfl, hM⟩, by omega⟩
        · replace hE := hE'; clear hE'
          replace hb126 := of_decide_eq_false hb126
          replace hb126 : ¬ k < (gs).length - 1 := by omega
          refine wp_cond_false (hE.eval rfl) ?_
          refine wp_exit ?_
          refine q_then_e ?_
          refine q_then_e ?_
          refine q_block_x ?_
          refine hK24 _ _ ?_
          refine wp_plain [true, true, true, true, true, true, true, false] rfl rfl ?_
          refine s_move hE rfl rfl ?_; clear hE a; intro a hE
          obtain ⟨cx143, hx143⟩ := own_rd (hM.get 0 rfl)
          refine s_indexRd (j := 0) hE rfl hx143 rfl slt37 (by first | rfl | omega) (by first | omega | (simp; omega) | decide) rfl ?_; clear hE a; intro a p143 hE hc143 hp143
          rw [cls_elem kc50.ok (by omega), kc50.first] at hc143
          refine s_fieldAtN (m := 1) hE rfl hc143 fo26_0 rfl ?_; clear hE a; intro a p144 hE hc144 hp144
          replace hc144 : (cellsAt p144 [.int .u64 (c0.1 : Int)]).holds w13 := by simpa [cl] using hc144
          refine s_loadAt1 hE rfl hc144 one22 (by intro X h; cases h) rfl ?_; clear hE a; intro a hE
          refine s_bin hE rfl rfl (show Bin _ _ _ _ _ (.int .u64 ((c0.1 + 1 : Nat) : Int)) from bin_add (by rw [wrap_u64 (by omega) (by omega)]; omega)) rfl ?_; clear hE a; intro a hE
          refine s_indexOwn (j := 0) hE rfl (hM.get 0 rfl) rfl slt37 rfl (by omega) rfl ?_; clear hE a; intro a hE _
          refine s_fieldElem hE rfl (hM.get 0 rfl) (by omega) fo26_0 rfl ?_; clear hE a; intro a hE
          refine s_storeOwn (vs := [.int .u64 ((c0.1 + 1 : Nat) : Int)]) hE rfl rfl hM rfl sz22 rfl (one1 rfl) (by rw [List.length_singleton]; omega) (by omega) (by intro X h; cases h) ?_; intro w14 hM'; clear hM; have hM := hM'; clear hM'
          refine q_nil ?_
          replace hE : Env a 150 [(1, _), (2, _), (5, _), (7, _), (8, _), (9, _), (10, _), (15, _), (16, _), (126, _)] := hE.sel [1, 2, 5, 7, 8, 9, 10, 15, 16, 126] rfl
          refine q_block_n ?_
          refine hK12 _ _ ?_
          refine wp_plain [true, true, true] rfl rfl ?_
          refine s_move hE rfl rfl ?_; clear hE a; intro a hE
          refine s_bin hE rfl rfl (bin_add (wrap_i64 (by omega) (by omega))) rfl ?_; clear hE a; intro a hE
          refine s_assign hE rfl rfl ?_; clear hE a; intro a hE
          refine q_nil ?_
          replace hE : Env a 150 [(1, _), (2, _), (5, _), (7, _), (8, _), (9, _), (10, _), (15, _), (16, _), (126, _)] := hE.sel [1, 2, 5, 7, 8, 9, 10, 15, 16, 126] rfl
          replace hE := hE.cast 10 rfl (show _ = Value.int .i64 ((i + 1 : Nat) : Int) from congrArg _ (by omega))
          replace hM : Mem _ _ w14 [_, _, _, _, _, _] := hM.pick [1, 2, 3, 4, 5, 0] rfl
          replace hM : Mem _ _ w14 [_, _, _, _, _] := hM.pick [0, 1, 2, 3, 4] rfl
          rw [hsc] at hM
          replace hE := hE.sel [1, 2, 5, 7, 8, 9, 10] rfl
          rw [hsc] at hE
          exact ⟨i + 1, ⟨by omega, by omega, _, hE, hM⟩, by omega⟩
      · replace hE := hE'; clear hE'
        have hlt := advE_false hb54
        refine wp_cond_false (hE.eval rfl) ?_
        refine wp_seq_k (fun K16 hK16 => ?_)
        refine wp_plain [true, true, true, true, true, true, true, true, true, true] rfl rfl ?_
        refine s_move hE rfl rfl ?_; clear hE a; intro a hE
        refine s_bin hE rfl rfl bin_neq rfl ?_; clear hE a; intro a hE
        refine s_move hE rfl rfl ?_; clear hE a; intro a hE
        replace hE := hE.cast 72 rfl (show _ = Value.bool false from (congrArg Value.bool (by rw [advE_ge hlt]; rfl)))
        refine g_yes hE rfl rfl ?_
        refine s_move hE rfl rfl ?_; clear hE a; intro a hE
        refine g_yes hE rfl rfl ?_
        refine s_bin hE rfl rfl bin_neq rfl ?_; clear hE a; intro a hE
        refine s_pickf hE rfl rfl rfl ?_; clear hE a; intro a hE
        refine s_move hE rfl rfl ?_; clear hE a; intro a hE
        replace hE := hE.cast 76 rfl (show _ = Value.bool false from (congrArg Value.bool (by rw [advN_ge hlt]; rfl)))
        refine g_yes hE rfl rfl ?_
        refine s_move hE rfl rfl ?_; clear hE a; intro a hE
        refine g_yes hE rfl rfl ?_
        refine s_bin hE rfl rfl bin_neq rfl ?_; clear hE a; intro a hE
        refine s_pickf hE rfl rfl rfl ?_; clear hE a; intro a hE
        refine q_nil ?_
        replace hE : Env a 150 [(1, _), (2, _), (5, _), (7, _), (8, _), (9, _), (10, _), (11, _), (12, _), (41, _), (54, _), (79, _)] := hE.sel [1, 2, 5, 7, 8, 9, 10, 11, 12, 41, 54, 79] rfl
        refine hK16 _ _ ?_
        replace hE := hE.cast 79 rfl (show _ = Value.bool false from (congrArg Value.bool (by rw [show (lst (histL c0 (ts.take i))).1 = 4611686018427387904 from by have h1 := kc.top; omega]; rfl)))
        refine wp_cond_false (hE.eval rfl) ?_
        refine wp_skip ?_
        refine hK14 _ _ ?_
        refine wp_seq_k (fun K17 hK17 => ?_)
        refine wp_plain [true, false, true, true, true, false, false, true] rfl rfl ?_
        replace hE := hE.cast 7 rfl (show _ = Value.int .u64 ((lst (advL (histL c0 (ts.take i)) (ts.getD i []))).1 : Int) from by rw [advL_ge hlt])
        replace hE := hE.cast 9 rfl (show _ = Value.int .i64 ((advL (histL c0 (ts.take i)) (ts.getD i [])).length : Int) from by rw [advL_ge hlt])
        replace hM : Mem _ _ w6 [_, _, _, _, _] := hM.pick [2, 0, 1, 3, 4] rfl
        rw [show bv (lst (histL c0 (ts.take i))).2 = bv (lst (advL (histL c0 (ts.take i)) (ts.getD i []))).2 from by rw [advL_ge hlt]] at hM
        have hsc := hist_succ (c0 := c0) (ts := ts) hb38
        generalize advL (histL c0 (ts.take i)) (ts.getD i []) = gs at *
        refine s_move hE rfl rfl ?_; clear hE a; intro a hE
        have h32 := kc50.last.1
        obtain ⟨crd82, hrd82⟩ := own_rd (hM.get 2 rfl)
        refine s_call hE rfl Try.call10 (cread_c pc vc50 (gs) _ _ (hM.get 1 rfl) hrd82 kc50.ok kc50.pos (by first | omega | decide)) rfl ?_
        rintro e w7 ⟨rfl, hN⟩
        refine ⟨_, rfl, trivial, ?_⟩; clear hE a; intro a hE
        replace hM : Mem _ _ w7 [_, _, _, _, _] := hM.call0 hN trivial; clear hN
        refine s_move hE rfl rfl ?_; clear hE a; intro a hE
        refine s_extract hE rfl rfl rfl ?_; clear hE a; intro a hE
        refine s_extract hE rfl rfl rfl ?_; clear hE a; intro a hE
        refine s_alloc [1, 32] hE hM zero26 rfl rfl ?_; clear hE a; intro a b13 w8 hE hM'
        clear hM; have hM := hM'; clear hM'
        refine s_storeSegs 0 2 (vss := [[.int .u64 ((lst (gs)).1 : Int)], bv (lst (gs)).2]) hE rfl rfl hM (show (Value.agg (cl (lst (gs))).toArray).cells = _ by simp [Value.cells, cl]) sz26 (by simp [kc50.last.1]) (by decide) rfl (one_fl ⟨one1 rfl, bv_one _, trivial⟩) rfl (by intro X h; cases h) ?_; intro w9 hM'; clear hM; have hM := hM'; clear hM'
        simp only [List.take_zero, List.take_succ_cons, List.drop_zero, List.drop_succ_cons, List.take_nil, List.drop_nil, List.nil_append, List.append_nil, List.cons_append] at hM
        refine s_assign hE rfl rfl ?_; clear hE a; intro a hE
        refine q_nil ?_
        replace hE : Env a 150 [(1, _), (2, _), (5, _), (7, _), (8, _), (9, _), (10, _), (11, _), (12, _), (13, _), (14, _), (41, _), (54, _), (79, _)] := hE.sel [1, 2, 5, 7, 8, 9, 10, 11, 12, 13, 14, 41, 54, 79] rfl
        refine hK17 _ _ ?_
        refine wp_seq_k (fun K18 hK18 => ?_)
        refine wp_plain [true, false, true] rfl rfl ?_
        refine s_move hE rfl rfl ?_; clear hE a; intro a hE
        obtain ⟨crh, hrh⟩ := own_rd (hM.get 3 rfl)
        refine s_call hE rfl Try.call11 (chist_c pc vc50 (gs) _ _ (hM.get 2 rfl) hrh kc50.pos (by omega)) rfl ?_
        rintro e w10 ⟨vlh, rfl, hN⟩
        refine ⟨_, rfl, trivial, ?_⟩; clear hE a; intro a hE
        replace hM : Mem _ _ w10 [_, _, _, _, _, _, _] := hM.call0 hN ⟨rfl, trivial⟩; clear hN
        have hpos := kc50.pos
        refine s_assign hE rfl rfl ?_; clear hE a; intro a hE
        refine q_nil ?_
        replace hE : Env a 150 [(1, _), (2, _), (5, _), (7, _), (8, _), (9, _), (10, _), (11, _), (12, _), (13, _), (14, _), (15, _), (41, _), (54, _), (79, _)] := hE.sel [1, 2, 5, 7, 8, 9, 10, 11, 12, 13, 14, 15, 41, 54, 79] rfl
        refine hK18 _ _ ?_
        refine wp_seq_k (fun K19 hK19 => ?_)
        refine wp_seq_k (fun K20 hK20 => ?_)
        refine wp_drawnM hM (by kernel_rfl) (fun _ => False) [(0, true), (1, true), (2, true), (3, true), (4, true), (5, true), (6, true), (7, true), (8, true), (9, true), (10, true), (11, true), (12, true), (13, true), (14, true), (15, true), (16, true), (17, true), (18, true), (19, true), (20, true), (21, true), (22, true), (23, true), (24, true), (25, true), (26, true), (27, true), (28, true), (29, true), (30, true), (31, true), (32, true), (33, true), (34, true), (35, true)] [] (by kernel_rfl) rfl ?_
        intro w11 hM' hww11; clear hM; have hM := hM'; clear hM'
        refine s_move hE rfl rfl ?_; clear hE a; intro a hE
        refine s_bin hE rfl rfl bin_neq rfl ?_; clear hE a; intro a hE
        refine s_move hE rfl rfl ?_; clear hE a; intro a hE
        replace hE := hE.cast 89 rfl (show _ = Value.bool false from (congrArg Value.bool (by rfl)))
        refine g_yes hE rfl rfl ?_
        refine s_fieldAddr hE rfl fo26_0 rfl ?_; clear hE a; intro a hE
        refine g_yes hE rfl rfl ?_
        refine s_load1 hE rfl (hM.get 1 rfl) rfl one22 (by intro X h; cases h; simp) rfl ?_; clear hE a; intro a hE
        refine g_yes hE rfl rfl ?_
        refine s_move hE rfl rfl ?_; clear hE a; intro a hE
        refine g_yes hE rfl rfl ?_
        refine s_bin hE rfl rfl bin_neq rfl ?_; clear hE a; intro a hE
        refine s_pickf hE rfl rfl rfl ?_; clear hE a; intro a hE
        refine s_move hE rfl rfl ?_; clear hE a; intro a hE
        replace hE := hE.cast 95 rfl (show _ = Value.bool false from (congrArg Value.bool (by simp [lst, kc50.first])))
        refine g_yes hE rfl rfl ?_
        refine s_fieldAddr hE rfl fo26_1 rfl ?_; clear hE a; intro a hE
        refine g_yes hE rfl rfl ?_
        refine s_loadN hE rfl (hM.get 1 rfl) row24 rfl (by intro X h; cases h; simp) rfl ?_; clear hE a; intro a hE
        refine g_yes hE rfl rfl ?_
        refine s_loadN hE rfl (hM.get 2 rfl) row24 rfl (by intro X h; cases h; simp) rfl ?_; clear hE a; intro a hE
        refine g_yes hE rfl rfl ?_
        refine s_bin hE rfl rfl (eqa24 (by first | simp | assumption) (by first | simp | assumption)).2 rfl ?_; clear hE a; intro a hE
        refine s_pickf hE rfl rfl rfl ?_; clear hE a; intro a hE
        refine s_move hE rfl rfl ?_; clear hE a; intro a hE
        replace hE := hE.cast 101 rfl (show _ = Value.bool false from (congrArg Value.bool (by simp [lst, kc50.first])))
        refine g_yes hE rfl rfl ?_
        refine s_move hE rfl rfl ?_; clear hE a; intro a hE
        refine g_yes hE rfl rfl ?_
        refine s_len hE rfl Try.underlying37 (own_slice (hM.get 0 rfl)) rfl ?_; clear hE a; intro a hE
        refine g_yes hE rfl rfl ?_
        refine s_move hE rfl rfl ?_; clear hE a; intro a hE
        refine g_yes hE rfl rfl ?_
        refine s_bin hE rfl rfl bin_neq rfl ?_; clear hE a; intro a hE
        refine s_pickf hE rfl rfl rfl ?_; clear hE a; intro a hE
        refine s_move hE rfl rfl ?_; clear hE a; intro a hE
        replace hE := hE.cast 107 rfl (show _ = Value.bool false from (congrArg Value.bool (by simp [lst, kc50.first])))
        refine g_yes hE rfl rfl ?_
        refine s_move hE rfl rfl ?_; clear hE a; intro a hE
        refine g_yes hE rfl rfl ?_
        refine s_move hE rfl rfl ?_; clear hE a; intro a hE
        refine g_yes hE rfl rfl ?_
        refine s_bin hE rfl rfl (bin_sub (wrap_i64 (by omega) (by omega))) rfl ?_; clear hE a; intro a hE
        refine g_yes hE rfl rfl ?_
        obtain ⟨cx111, hx111⟩ := own_rd (hM.get 0 rfl)
        refine s_indexRd (j := ((gs).length - 1)) hE rfl hx111 rfl slt37 (by first | rfl | omega) (by first | omega | (simp; omega) | decide) rfl ?_; clear hE a; intro a p111 hE hc111 hp111
        rw [cls_elem kc50.ok (by omega)] at hc111
        refine g_yes hE rfl rfl ?_
        refine s_loadAtN hE rfl hc111 (by rw [cl_len (kc50.get (by omega))]; exact row26) (by intro X h; cases h; simp) rfl ?_; clear hE a; intro a hE
        refine g_yes hE rfl rfl ?_
        refine s_loadN hE rfl (hM.get 1 rfl) row26 rfl (by intro X h; cases h; simp) rfl ?_; clear hE a; intro a hE
        replace hE := hE.cast 113 rfl (show _ = Value.agg (cl (lst (gs))).toArray from by simp [cl])
        refine g_yes hE rfl rfl ?_
        refine s_bin hE rfl rfl (eqCl (kc50.get (by omega)) kc50.last).2 rfl ?_; clear hE a; intro a hE
        refine s_pickf hE rfl rfl rfl ?_; clear hE a; intro a hE
        refine s_move hE rfl rfl ?_; clear hE a; intro a hE
        replace hE := hE.cast 116 rfl (show _ = Value.bool false from (congrArg Value.bool (by simp [lst, kc50.first])))
        refine g_yes hE rfl rfl ?_
        refine s_move hE rfl rfl ?_; clear hE a; intro a hE
        refine g_yes hE rfl rfl ?_
        obtain ⟨cx118, hx118⟩ := own_rd (hM.get 0 rfl)
        refine s_indexRd (j := 0) hE rfl hx118 rfl slt37 (by first | rfl | omega) (by first | omega | (simp; omega) | decide) rfl ?_; clear hE a; intro a p118 hE hc118 hp118
        rw [cls_elem kc50.ok (by omega), kc50.first] at hc118
        refine g_yes hE rfl rfl ?_
        refine s_loadAtN hE rfl hc118 (by rw [cl_len h0]; exact row26) (by intro X h; cases h; simp) rfl ?_; clear hE a; intro a hE
        refine g_yes hE rfl rfl ?_
        refine s_loadN hE rfl (hM.get 6 rfl) row26 rfl (by intro X h; cases h; simp) rfl ?_; clear hE a; intro a hE
        replace hE := hE.cast 120 rfl (show _ = Value.agg (cl c0).toArray from by simp [cl])
        refine g_yes hE rfl rfl ?_
        refine s_bin hE rfl rfl (eqCl h0 h0).2 rfl ?_; clear hE a; intro a hE
        refine s_pickf hE rfl rfl rfl ?_; clear hE a; intro a hE
        refine q_nil ?_
        replace hE : Env a 150 [(1, _), (2, _), (5, _), (7, _), (8, _), (9, _), (10, _), (11, _), (12, _), (13, _), (14, _), (15, _), (41, _), (54, _), (79, _), (122, _)] := hE.sel [1, 2, 5, 7, 8, 9, 10, 11, 12, 13, 14, 15, 41, 54, 79, 122] rfl
        refine hK20 _ _ ?_
        replace hE := hE.cast 122 rfl (show _ = Value.bool false from (congrArg Value.bool (by simp [lst, kc50.first])))
        refine wp_cond_false (hE.eval rfl) ?_
        refine wp_skip ?_
        refine hK19 _ _ ?_
        refine wp_seq_k (fun K21 hK21 => ?_)
        refine wp_seq_k (fun K22 hK22 => ?_)
        refine wp_plain [true] rfl rfl ?_
        refine s_assign hE rfl rfl ?_; clear hE a; intro a hE
        refine q_nil ?_
        refine hK22 _ _ ?_
        refine wp_block ?_
        replace hM : Mem _ _ w11 [_, _, _, _, _, _, _] := hM.pick [0, 3, 4, 2, 5, 6, 1] rfl
        replace hM : Mem _ _ w11 [_, _, _, _, _, _] := hM.pick [0, 1, 2, 3, 4, 5] rfl
        refine c_loop (fun (k : Nat) a w' => k ≤ (gs).length - 1 ∧ Env a 150 [(1, v1), (2, .pointer (some ⟨b2, 0, none⟩)), (5, .pointer (some ⟨pc, 0, none⟩)), (7, .int .u64 ((lst (gs)).1 : Int)), (8, .pointer (some ⟨b8, 0, none⟩)), (9, .int .i64 ((gs).length : Int)), (10, .int .i64 (i : Int)), (15, vlh), (16, .int .i64 ((k + 1 : Nat) : Int))] ∧ Mem w [] w' [own vlh 33 (gs).length (cls (gs)), blk pc [[vc50]] [1] 56, own vc50 33 (gs).length (cls (gs)), blk b8 [bv (lst (gs)).2] [32] 24, rd v1 32 ts.length c1 (ts.flatMap bv), blk b2 [[.int .u64 (c0.1 : Int)], bv c0.2] [1, 32] 26]) (fun k => (gs).length - 1 - k) 0 ⟨Nat.zero_le _, hE.sel [1, 2, 5, 7, 8, 9, 10, 15, 16] rfl, hM⟩ ?_
        clear hE hM a; rintro k a w12 ⟨hk, hE, hM⟩
        refine wp_seq_k (fun K23 hK23 => ?_)
        refine wp_seq_k (fun K24 hK24 => ?_)
        refine wp_plain [true, true, true, true] rfl rfl ?_
        refine s_move hE rfl rfl ?_; clear hE a; intro a hE
        refine s_move hE rfl rfl ?_; clear hE a; intro a hE
        refine s_len hE rfl Try.underlying37 (own_slice (hM.get 0 rfl)) rfl ?_; clear hE a; intro a hE
        refine s_bin hE rfl rfl bin_lss rfl ?_; clear hE a; intro a hE
        refine q_nil ?_
        replace hE : Env a 150 [(1, _), (2, _), (5, _), (7, _), (8, _), (9, _), (10, _), (15, _), (16, _), (126, _)] := hE.sel [1, 2, 5, 7, 8, 9, 10, 15, 16, 126] rfl
        refine hK24 _ _ ?_
        refine hE.split 126 rfl (fun hb126 hE' => ?_) (fun hb126 hE' => ?_)
        · replace hE := hE'; clear hE'
          replace hb126 := of_decide_eq_true hb126
          replace hb126 : k < (gs).length - 1 := by omega
          refine wp_cond_true (hE.eval rfl) ?_
          refine wp_skip ?_
          refine hK23 _ _ ?_
          refine wp_seq_k (fun K25 hK25 => ?_)
          refine wp_block ?_
          refine wp_seq_k (fun K26 hK26 => ?_)
          refine wp_drawnM hM (by kernel_rfl) (fun _ => False) [(0, true), (1, true), (2, true), (3, true), (4, true), (5, true), (6, true), (7, true), (8, true), (9, true), (10, true), (11, true), (12, true)] [] (by kernel_rfl) rfl ?_
          intro w13 hM' hww13; clear hM; have hM := hM'; clear hM'
          refine s_move hE rfl rfl ?_; clear hE a; intro a hE
          refine s_move hE rfl rfl ?_; clear hE a; intro a hE
          obtain ⟨cx131, hx131⟩ := own_rd (hM.get 0 rfl)
          refine s_indexRd (j := (k + 1)) hE rfl hx131 rfl slt37 (by first | rfl | omega) (by first | omega | (simp; omega) | decide) rfl ?_; clear hE a; intro a p131 hE hc131 hp131
          rw [cls_elem kc50.ok (by omega)] at hc131
          refine s_fieldAtN (m := 1) hE rfl hc131 fo26_0 rfl ?_; clear hE a; intro a p132 hE hc132 hp132
          replace hc132 : (cellsAt p132 [.int .u64 (((gs).getD (k + 1) cl0).1 : Int)]).holds w13 := by simpa [cl] using hc132
          refine s_loadAt1 hE rfl hc132 one22 (by intro X h; cases h; simp) rfl ?_; clear hE a; intro a hE
          refine s_move hE rfl rfl ?_; clear hE a; intro a hE
          refine s_move hE rfl rfl ?_; clear hE a; intro a hE
          refine s_bin hE rfl rfl (bin_sub (wrap_i64 (by omega) (by omega))) rfl ?_; clear hE a; intro a hE
          obtain ⟨cx137, hx137⟩ := own_rd (hM.get 0 rfl)
          refine s_indexRd (j := k) hE rfl hx137 rfl slt37 (by first | rfl | omega) (by first | omega | (simp; omega) | decide) rfl ?_; clear hE a; intro a p137 hE hc137 hp137
          rw [cls_elem kc50.ok (by omega)] at hc137
          refine s_fieldAtN (m := 1) hE rfl hc137 fo26_0 rfl ?_; clear hE a; intro a p138 hE hc138 hp138
          replace hc138 : (cellsAt p138 [.int .u64 (((gs).getD k cl0).1 : Int)]).holds w13 := by simpa [cl] using hc138
          refine s_loadAt1 hE rfl hc138 one22 (by intro X h; cases h; simp) rfl ?_; clear hE a; intro a hE
          refine s_bin hE rfl rfl (show Bin _ _ _ _ _ (.int .u64 ((((gs).getD k cl0).1 + 1 : Nat) : Int)) from bin_add (by have h1 := (kc50.get (i := k + 1) (by omega)).2; have h2 := kc50.step (k + 1) (by omega) (by omega); rw [Nat.add_sub_cancel] at h2; rw [wrap_u64 (by omega) (by omega)]; omega)) rfl ?_; clear hE a; intro a hE
          refine s_bin hE rfl rfl bin_neq rfl ?_; clear hE a; intro a hE
          refine q_nil ?_
          replace hE : Env a 150 [(1, _), (2, _), (5, _), (7, _), (8, _), (9, _), (10, _), (15, _), (16, _), (126, _), (141, _)] := hE.sel [1, 2, 5, 7, 8, 9, 10, 15, 16, 126, 141] rfl
          refine hK26 _ _ ?_
          replace hE := hE.cast 141 rfl (show _ = Value.bool false from (congrArg Value.bool (by rw [kc50.step (k + 1) (by omega) (by omega)]; simp)))
          refine wp_cond_false (hE.eval rfl) ?_
          refine wp_skip ?_
          refine q_block_n ?_
          refine hK25 _ _ ?_
          refine wp_plain [true, true, true] rfl rfl ?_
          refine s_move hE rfl rfl ?_; clear hE a; intro a hE
          refine s_bin hE rfl rfl (bin_add (wrap_i64 (by omega) (by omega))) rfl ?_; clear hE a; intro a hE
          refine s_assign hE rfl rfl ?_; clear hE a; intro a hE
          refine q_nil ?_
          replace hE : Env a 150 [(1, _), (2, _), (5, _), (7, _), (8, _), (9, _), (10, _), (15, _), (16, _), (126, _), (141, _)] := hE.sel [1, 2, 5, 7, 8, 9, 10, 15, 16, 126, 141] rfl
          replace hE := hE.cast 16 rfl (show _ = Value.int .i64 (((k + 1) + 1 : Nat) : Int) from congrArg _ (by omega))
          exact ⟨k + 1, ⟨by omega, hE.sel [1, 2, 5, 7, 8, 9, 10, 15, 16] rfl, hM⟩, by omega⟩
        · replace hE := hE'; clear hE'
          replace hb126 := of_decide_eq_false hb126
          replace hb126 : ¬ k < (gs).length - 1 := by omega
          refine wp_cond_false (hE.eval rfl) ?_
          refine wp_exit ?_
          refine q_then_e ?_
          refine q_then_e ?_
          refine q_block_x ?_
          refine hK21 _ _ ?_
          refine wp_plain [true, true, true, true, true, true, true, false] rfl rfl ?_
          refine s_move hE rfl rfl ?_; clear hE a; intro a hE
          obtain ⟨cx143, hx143⟩ := own_rd (hM.get 0 rfl)
          refine s_indexRd (j := 0) hE rfl hx143 rfl slt37 (by first | rfl | omega) (by first | omega | (simp; omega) | decide) rfl ?_; clear hE a; intro a p143 hE hc143 hp143
          rw [cls_elem kc50.ok (by omega), kc50.first] at hc143
          refine s_fieldAtN (m := 1) hE rfl hc143 fo26_0 rfl ?_; clear hE a; intro a p144 hE hc144 hp144
          replace hc144 : (cellsAt p144 [.int .u64 (c0.1 : Int)]).holds w12 := by simpa [cl] using hc144
          refine s_loadAt1 hE rfl hc144 one22 (by intro X h; cases h) rfl ?_; clear hE a; intro a hE
          refine s_bin hE rfl rfl (show Bin _ _ _ _ _ (.int .u64 ((c0.1 + 1 : Nat) : Int)) from bin_add (by rw [wrap_u64 (by omega) (by omega)]; omega)) rfl ?_; clear hE a; intro a hE
          refine s_indexOwn (j := 0) hE rfl (hM.get 0 rfl) rfl slt37 rfl (by omega) rfl ?_; clear hE a; intro a hE _
          refine s_fieldElem hE rfl (hM.get 0 rfl) (by omega) fo26_0 rfl ?_; clear hE a; intro a hE
          refine s_storeOwn (vs := [.int .u64 ((c0.1 + 1 : Nat) : Int)]) hE rfl rfl hM rfl sz22 rfl (one1 rfl) (by rw [List.length_singleton]; omega) (by omega) (by intro X h; cases h) ?_; intro w13 hM'; clear hM; have hM := hM'; clear hM'
          refine q_nil ?_
          replace hE : Env a 150 [(1, _), (2, _), (5, _), (7, _), (8, _), (9, _), (10, _), (15, _), (16, _), (126, _)] := hE.sel [1, 2, 5, 7, 8, 9, 10, 15, 16, 126] rfl
          refine q_block_n ?_
          refine hK12 _ _ ?_
          refine wp_plain [true, true, true] rfl rfl ?_
          refine s_move hE rfl rfl ?_; clear hE a; intro a hE
          refine s_bin hE rfl rfl (bin_add (wrap_i64 (by omega) (by omega))) rfl ?_; clear hE a; intro a hE
          refine s_assign hE rfl rfl ?_; clear hE a; intro a hE
          refine q_nil ?_
          replace hE : Env a 150 [(1, _), (2, _), (5, _), (7, _), (8, _), (9, _), (10, _), (15, _), (16, _), (126, _)] := hE.sel [1, 2, 5, 7, 8, 9, 10, 15, 16, 126] rfl
          replace hE := hE.cast 10 rfl (show _ = Value.int .i64 ((i + 1 : Nat) : Int) from congrArg _ (by omega))
          replace hM : Mem _ _ w13 [_, _, _, _, _, _] := hM.pick [1, 2, 3, 4, 5, 0] rfl
          replace hM : Mem _ _ w13 [_, _, _, _, _] := hM.pick [0, 1, 2, 3, 4] rfl
          rw [hsc] at hM
          replace hE := hE.sel [1, 2, 5, 7, 8, 9, 10] rfl
          rw [hsc] at hE
          exact ⟨i + 1, ⟨by omega, by omega, _, hE, hM⟩, by omega⟩
    · replace hE := hE'; clear hE'
      replace hb41 := of_decide_eq_false hb41
      refine wp_cond_false (hE.eval rfl) ?_
      refine wp_exit ?_
      refine q_then_e ?_
      refine q_then_e ?_
      refine q_block_x ?_
      refine hK8 _ _ ?_
      refine wp_seq_k (fun K12 hK12 => ?_)
      refine wp_plain [false, true] rfl rfl ?_
      refine s_call hE rfl Try.call8 (works12_c _) rfl ?_
      rintro e w6 ⟨rfl, hN⟩
      refine ⟨_, rfl, trivial, ?_⟩; clear hE a; intro a hE
      replace hM : Mem _ _ w6 [_, _, _, _, _] := hM.call0 hN trivial; clear hN
      refine s_assign hE rfl rfl ?_; clear hE a; intro a hE
      refine q_nil ?_
      replace hE : Env a 150 [(1, _), (2, _), (4, _), (5, _), (7, _), (8, _), (9, _), (10, _), (41, _)] := hE.sel [1, 2, 4, 5, 7, 8, 9, 10, 41] rfl
      refine hK12 _ _ ?_
      refine wp_ret ?_
      refine f_ret1 hE rfl rfl ?_
      exact ⟨rfl, hM.nil⟩
  · replace hE := hE'; clear hE'
    replace hb38 := of_decide_eq_false hb38
    replace hb38 : ¬ i < ts.length := by omega
    refine g_no (b := false) hE rfl rfl rfl ?_; clear hE a; intro a hE
    refine g_no (b := false) hE rfl rfl rfl ?_; clear hE a; intro a hE
    refine s_pickf hE rfl rfl rfl ?_; clear hE a; intro a hE
    refine q_nil ?_
    replace hE : Env a 150 [(1, _), (2, _), (5, _), (7, _), (8, _), (9, _), (10, _), (41, _)] := hE.sel [1, 2, 5, 7, 8, 9, 10, 41] rfl
    refine hK11 _ _ ?_
    refine wp_cond_false (hE.eval rfl) ?_
    refine wp_exit ?_
    refine q_then_e ?_
    refine q_then_e ?_
    refine q_block_x ?_
    refine hK8 _ _ ?_
    refine wp_seq_k (fun K12 hK12 => ?_)
    refine wp_plain [false, true] rfl rfl ?_
    refine s_call hE rfl Try.call8 (works12_c _) rfl ?_
    rintro e w6 ⟨rfl, hN⟩
    refine ⟨_, rfl, trivial, ?_⟩; clear hE a; intro a hE
    replace hM : Mem _ _ w6 [_, _, _, _, _] := hM.call0 hN trivial; clear hN
    refine s_assign hE rfl rfl ?_; clear hE a; intro a hE
    refine q_nil ?_
    replace hE : Env a 150 [(1, _), (2, _), (4, _), (5, _), (7, _), (8, _), (9, _), (10, _), (41, _)] := hE.sel [1, 2, 4, 5, 7, 8, 9, 10, 41] rfl
    refine hK12 _ _ ?_
    refine wp_ret ?_
    refine f_ret1 hE rfl rfl ?_
    exact ⟨rfl, hM.nil⟩
theorem cellRises_c (c0 : Cl) (v1 : Value) (ts : List (List UInt8)) (c1 : Nat) (w : World) (h0 : OkCl c0) (hr1 : (rd v1 32 ts.length c1 (ts.flatMap bv)).holds w) (hts : ∀ t, t ∈ ts → t.length = 32) : Calls Try.prog 3 #[.agg (cl c0).toArray, v1] w fun e w' => e = .returned (.bool true) ∧ Mem w [] w' [] := by
  rcases Nat.lt_or_ge 4611686018427387904 c0.1 with h | h
  · exact cellRises_bad c0 v1 ts c1 w h0 hr1 hts h
  · exact cellRises_ok c0 v1 ts c1 w h0 hr1 hts h
set_option maxRecDepth 100000 in
theorem cellRises_lifted (os : Os) (started : os.Started) (H : Type) (enc : TypeId × Value → H) :
    ReturnsInHanded {} Try.checked os 3 .any (Rows.cellRisesSpec.pre6 enc Try.prog Try.f3 Rows.cellRisesRow.domain false) (Rows.cellRisesSpec.post enc Try.prog Try.f3 false true false false) := by
  refine law_lifted (C := Try.checked) (fn := Try.f3) (by kernel_rfl) started (by kernel_rfl) Try.func3 rfl (fun ds hl => ?_) rfl Try.underlying4 (by kernel_rfl) (of_decide_eq_true (by kernel_rfl)) (ChangeSpec.witness6 (enc := enc) (C := Try.checked) false ⟨#[], #[.agg (cl cl0).toArray, .slice none 0 0], []⟩ 8 (by kernel_rfl) (by kernel_rfl) (by kernel_rfl) (by kernel_rfl)) ?_
  · rw [Try.params3] at hl
    match ds, hl with
    | [_, _], _ => rfl
  · intro W base args ds ps hval hA hw
    rw [Try.params3] at hA hval hw
    obtain ⟨v0, vs0, d0, ds0, p0, q0, hargs, rfl, rfl, h0, r0⟩ := trodAll_cons hA
    obtain ⟨v1, vs1, d1, ds1, p1, q1, rfl, rfl, rfl, h1, r1⟩ := trodAll_cons r0
    obtain ⟨rfl, rfl, rfl⟩ := trodAll_nil r1
    obtain rfl : args = #[v0, v1] := by cases args; simp_all
    obtain ⟨c0, rfl, hc0⟩ := arg_cell (t0 := 22) (t1 := 24) Try.underlying26 (by kernel_rfl) (by kernel_rfl) Try.underlying22 Try.underlying24 Try.underlying5 (by kernel_rfl) (by kernel_rfl) (hval 0 26 v0 rfl rfl) h0 (fun m hm => hw m (by simp only [DataW.weightsEach, List.mem_append]; exact .inl hm))
    obtain ⟨ts1, k1, hr1, ht1, _⟩ := arg_rows (es := 32) Try.underlying27 (by kernel_rfl) (by kernel_rfl) (by decide) (by decide : 0 < 32) (dec_arr8 (n := 32) Try.underlying24 Try.underlying5 (by kernel_rfl) (by kernel_rfl)) (hval 1 27 v1 rfl rfl) h1 (fun m hm => hw m (by simp only [DataW.weightsEach, List.mem_append]; exact .inr (.inl hm)))
    exact cellRises_c c0 v1 ts1 k1 W hc0 hr1 ht1

/-- The statement. -/
theorem cellRises_holds : Rows.CellRisesSaid :=
  OpenClaim.holds_of_wide 3 Try.f3 rfl rfl rfl rfl rfl rfl rfl ⟨rfl, rfl, rfl, rfl, rfl⟩ rfl rfl rfl rfl rfl (by kernel_rfl) Try.func3 (by kernel_rfl)
    (of_decide_eq_true (by kernel_rfl)) (by unfold Func.isWrapper; first | (rw [if_pos (by decide +kernel)]; kernel_rfl) | (rw [if_neg (by decide +kernel)]; exact ⟨rfl, rfl⟩))
    (fun os started H enc _ => cellRises_lifted os started H enc)
#print axioms cellRises_holds
end Go.Proofs.Ytafokhpokeipkaa
