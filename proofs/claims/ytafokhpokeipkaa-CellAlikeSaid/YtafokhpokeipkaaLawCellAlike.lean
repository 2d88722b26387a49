/- CellAlike of casematelaw12 returns true for whatever start and labels; they read behind the call as before. No condition. -/
import Derived.Test.YtafokhpokeipkaaLc
namespace Go.Proofs.Ytafokhpokeipkaa
open Go Go.Kx
open Go.ChangeShapes Go.WideShapes Go.ChangeAt Go.RowKit
theorem slt27 : slT Try.prog 27 = some 32 := by kernel_rfl
set_option maxHeartbeats 2000000 in
theorem cellAlike_bad (c0 : Cl) (v1 v2 : Value) (ts us : List (List UInt8)) (c1 c2 : Nat) (w : World) (h0 : OkCl c0) (hr1 : (rd v1 32 ts.length c1 (ts.flatMap bv)).holds w) (hr2 : (rd v2 32 us.length c2 (us.flatMap bv)).holds w) (hts : ∀ t, t ∈ ts → t.length = 32) (hus : ∀ t, t ∈ us → t.length = 32) (hm : 4611686018427387904 < c0.1) : Calls Try.prog 6 #[.agg (cl c0).toArray, v1, v2] w fun e w' => e = .returned (.bool true) ∧ Mem w [] w' [] := by
  have hM := Mem.startR2 hr1 hr2 rfl rfl
  have hlc := rd_len hr1
  have hlc2 := rd_len hr2
  have eM : mostC = 4611686018427387904 := rfl
  have htl : ∀ t : List UInt8, t ∈ ts → (bv t).length = 32 := fun t ht => by rw [bv_length]; exact hts t ht
  have hul : ∀ t : List UInt8, t ∈ us → (bv t).length = 32 := fun t ht => by rw [bv_length]; exact hus t ht
  refine f_enter 149 Try.func6 rfl rfl rfl ?_
  intro a hE
  replace hE : Env a 149 [(0, _), (1, _), (2, _)] := hE
  refine wp_seq_k (fun K1 hK1 => ?_)
  refine wp_plain [false, true] rfl rfl ?_
  refine s_box (ss := [[.int .u64 (c0.1 : Int)], bv c0.2]) [1, 32] hE hM rfl (by simp [cl, Value.cells]) (by simp [h0.1]) rfl ?_; clear hE a; intro a b3 w1 hE hM'
  clear hM; have hM := hM'; clear hM'
  refine s_assign hE rfl rfl ?_; clear hE a; intro a hE
  refine q_nil ?_
  replace hE : Env a 149 [(1, _), (2, _), (3, _), (6, _)] := hE.sel [1, 2, 3, 6] rfl
  refine hK1 _ _ ?_
  refine wp_seq_k (fun K2 hK2 => ?_)
  refine wp_plain [true, false, true, true, true, true, true] rfl rfl ?_
  refine s_loadN hE rfl (hM.get 0 rfl) row26 rfl (by intro X h; cases h) rfl ?_; clear hE a; intro a hE
  replace hE := hE.cast 23 rfl (show _ = Value.agg (cl c0).toArray from by simp [cl])
  refine s_call hE rfl Try.call7 (cnew_bad c0 _ h0 hm) rfl ?_
  rintro e w2 ⟨rfl, hN⟩
  refine ⟨_, rfl, trivial, ?_⟩; clear hE a; intro a hE
  replace hM : Mem _ _ w2 [_, _, _] := hM.call0 hN trivial; clear hN
  refine s_move hE rfl rfl ?_; clear hE a; intro a hE
  refine s_extract hE rfl rfl rfl ?_; clear hE a; intro a hE
  refine s_extract hE rfl rfl rfl ?_; clear hE a; intro a hE
  refine s_assign hE rfl rfl ?_; clear hE a; intro a hE
  refine s_assign hE rfl rfl ?_; clear hE a; intro a hE
  refine q_nil ?_
  replace hE : Env a 149 [(1, _), (2, _), (3, _), (6, _), (7, _), (8, _)] := hE.sel [1, 2, 3, 6, 7, 8] rfl
  refine hK2 _ _ ?_
  refine wp_seq_k (fun K3 hK3 => ?_)
  refine wp_plain [true, false, true, true, true, true, true] rfl rfl ?_
  refine s_loadN hE rfl (hM.get 0 rfl) row26 rfl (by intro X h; cases h) rfl ?_; clear hE a; intro a hE
  replace hE := hE.cast 28 rfl (show _ = Value.agg (cl c0).toArray from by simp [cl])
  refine s_call hE rfl Try.call7 (cnew_bad c0 _ h0 hm) rfl ?_
  rintro e w3 ⟨rfl, hN⟩
  refine ⟨_, rfl, trivial, ?_⟩; clear hE a; intro a hE
  replace hM : Mem _ _ w3 [_, _, _] := hM.call0 hN trivial; clear hN
  refine s_move hE rfl rfl ?_; clear hE a; intro a hE
  refine s_extract hE rfl rfl rfl ?_; clear hE a; intro a hE
  refine s_extract hE rfl rfl rfl ?_; clear hE a; intro a hE
  refine s_assign hE rfl rfl ?_; clear hE a; intro a hE
  refine s_assign hE rfl rfl ?_; clear hE a; intro a hE
  refine q_nil ?_
  replace hE : Env a 149 [(1, _), (2, _), (3, _), (6, _), (7, _), (8, _), (9, _), (10, _)] := hE.sel [1, 2, 3, 6, 7, 8, 9, 10] rfl
  refine hK3 _ _ ?_
  refine wp_seq_k (fun K4 hK4 => ?_)
  refine wp_seq_k (fun K5 hK5 => ?_)
  refine wp_plain [true, true, true] rfl rfl ?_
  refine s_move hE rfl rfl ?_; clear hE a; intro a hE
  refine s_move hE rfl rfl ?_; clear hE a; intro a hE
  refine s_bin hE rfl rfl bin_neq rfl ?_; clear hE a; intro a hE
  refine q_nil ?_
  replace hE : Env a 149 [(1, _), (2, _), (3, _), (6, _), (7, _), (8, _), (9, _), (34, _)] := hE.sel [1, 2, 3, 6, 7, 8, 9, 34] rfl
  refine hK5 _ _ ?_
  replace hE := hE.cast 34 rfl (show _ = Value.bool false from (congrArg Value.bool (by rfl)))
  refine wp_cond_false (hE.eval rfl) ?_
  refine wp_skip ?_
  refine hK4 _ _ ?_
  refine wp_seq_k (fun K6 hK6 => ?_)
  refine wp_seq_k (fun K7 hK7 => ?_)
  refine wp_plain [true, true] rfl rfl ?_
  refine s_move hE rfl rfl ?_; clear hE a; intro a hE
  refine s_bin hE rfl rfl bin_neq rfl ?_; clear hE a; intro a hE
  refine q_nil ?_
  replace hE : Env a 149 [(1, _), (2, _), (3, _), (6, _), (7, _), (8, _), (9, _), (34, _), (36, _)] := hE.sel [1, 2, 3, 6, 7, 8, 9, 34, 36] rfl
  refine hK7 _ _ ?_
  replace hE := hE.cast 36 rfl (show _ = Value.bool true from (congrArg Value.bool (by rfl)))
  refine wp_cond_true (hE.eval rfl) ?_
  refine wp_seq_k (fun K8 hK8 => ?_)
  refine wp_plain [false, true] rfl rfl ?_
  refine s_call hE rfl Try.call8 (works12_c _) rfl ?_
  rintro e w4 ⟨rfl, hN⟩
  refine ⟨_, rfl, trivial, ?_⟩; clear hE a; intro a hE
  replace hM : Mem _ _ w4 [_, _, _] := hM.call0 hN trivial; clear hN
  refine s_assign hE rfl rfl ?_; clear hE a; intro a hE
  refine q_nil ?_
  replace hE : Env a 149 [(1, _), (2, _), (3, _), (6, _), (7, _), (8, _), (9, _), (34, _), (36, _)] := hE.sel [1, 2, 3, 6, 7, 8, 9, 34, 36] rfl
  refine hK8 _ _ ?_
  refine wp_ret ?_
  refine q_then_r ?_
  refine f_ret1 hE rfl rfl ?_
  exact ⟨rfl, hM.nil⟩
set_option maxHeartbeats 2000000 in
theorem cellAlike_ok (c0 : Cl) (v1 v2 : Value) (ts us : List (List UInt8)) (c1 c2 : Nat) (w : World) (h0 : OkCl c0) (hr1 : (rd v1 32 ts.length c1 (ts.flatMap bv)).holds w) (hr2 : (rd v2 32 us.length c2 (us.flatMap bv)).holds w) (hts : ∀ t, t ∈ ts → t.length = 32) (hus : ∀ t, t ∈ us → t.length = 32) (hm : c0.1 ≤ 4611686018427387904) : Calls Try.prog 6 #[.agg (cl c0).toArray, v1, v2] w fun e w' => e = .returned (.bool true) ∧ Mem w [] w' [] := by
  have hM := Mem.startR2 hr1 hr2 rfl rfl
  have hlc := rd_len hr1
  have hlc2 := rd_len hr2
  have eM : mostC = 4611686018427387904 := rfl
  have htl : ∀ t : List UInt8, t ∈ ts → (bv t).length = 32 := fun t ht => by rw [bv_length]; exact hts t ht
  have hul : ∀ t : List UInt8, t ∈ us → (bv t).length = 32 := fun t ht => by rw [bv_length]; exact hus t ht
  refine f_enter 149 Try.func6 rfl rfl rfl ?_
  intro a hE
  replace hE : Env a 149 [(0, _), (1, _), (2, _)] := hE
  refine wp_seq_k (fun K1 hK1 => ?_)
  refine wp_plain [false, true] rfl rfl ?_
  refine s_box (ss := [[.int .u64 (c0.1 : Int)], bv c0.2]) [1, 32] hE hM rfl (by simp [cl, Value.cells]) (by simp [h0.1]) rfl ?_; clear hE a; intro a b3 w1 hE hM'
  clear hM; have hM := hM'; clear hM'
  refine s_assign hE rfl rfl ?_; clear hE a; intro a hE
  refine q_nil ?_
  replace hE : Env a 149 [(1, _), (2, _), (3, _), (6, _)] := hE.sel [1, 2, 3, 6] rfl
  refine hK1 _ _ ?_
  refine wp_seq_k (fun K2 hK2 => ?_)
  refine wp_plain [true, false, true, true, true, true, true] rfl rfl ?_
  refine s_loadN hE rfl (hM.get 0 rfl) row26 rfl (by intro X h; cases h) rfl ?_; clear hE a; intro a hE
  replace hE := hE.cast 23 rfl (show _ = Value.agg (cl c0).toArray from by simp [cl])
  refine s_call hE rfl Try.call7 (cnew_ok c0 _ h0 (by have e : mostC = 4611686018427387904 := rfl; omega)) rfl ?_
  rintro e w2 ⟨pc, bc, rfl, hN⟩
  refine ⟨_, rfl, trivial, ?_⟩; clear hE a; intro a hE
  replace hM : Mem _ _ w2 [_, _, _, _, _] := hM.call0 hN ⟨rfl, rfl, trivial⟩; clear hN
  have kc := OkH.one (c0 := c0) h0 (by have e : mostC = 4611686018427387904 := rfl; omega)
  refine s_move hE rfl rfl ?_; clear hE a; intro a hE
  refine s_extract hE rfl rfl rfl ?_; clear hE a; intro a hE
  refine s_extract hE rfl rfl rfl ?_; clear hE a; intro a hE
  refine s_assign hE rfl rfl ?_; clear hE a; intro a hE
  refine s_assign hE rfl rfl ?_; clear hE a; intro a hE
  refine q_nil ?_
  replace hE : Env a 149 [(1, _), (2, _), (3, _), (6, _), (7, _), (8, _)] := hE.sel [1, 2, 3, 6, 7, 8] rfl
  refine hK2 _ _ ?_
  refine wp_seq_k (fun K3 hK3 => ?_)
  refine wp_plain [true, false, true, true, true, true, true] rfl rfl ?_
  refine s_loadN hE rfl (hM.get 2 rfl) row26 rfl (by intro X h; cases h) rfl ?_; clear hE a; intro a hE
  replace hE := hE.cast 28 rfl (show _ = Value.agg (cl c0).toArray from by simp [cl])
  refine s_call hE rfl Try.call7 (cnew_ok c0 _ h0 (by have e : mostC = 4611686018427387904 := rfl; omega)) rfl ?_
  rintro e w3 ⟨pd, bd, rfl, hN⟩
  refine ⟨_, rfl, trivial, ?_⟩; clear hE a; intro a hE
  replace hM : Mem _ _ w3 [_, _, _, _, _, _, _] := hM.call0 hN ⟨rfl, rfl, trivial⟩; clear hN
  have kd := OkH.one (c0 := c0) h0 (by have e : mostC = 4611686018427387904 := rfl; omega)
  refine s_move hE rfl rfl ?_; clear hE a; intro a hE
  refine s_extract hE rfl rfl rfl ?_; clear hE a; intro a hE
  refine s_extract hE rfl rfl rfl ?_; clear hE a; intro a hE
  refine s_assign hE rfl rfl ?_; clear hE a; intro a hE
  refine s_assign hE rfl rfl ?_; clear hE a; intro a hE
  refine q_nil ?_
  replace hE : Env a 149 [(1, _), (2, _), (3, _), (6, _), (7, _), (8, _), (9, _), (10, _)] := hE.sel [1, 2, 3, 6, 7, 8, 9, 10] rfl
  refine hK3 _ _ ?_
  refine wp_seq_k (fun K4 hK4 => ?_)
  refine wp_seq_k (fun K5 hK5 => ?_)
  refine wp_plain [true, true, true] rfl rfl ?_
  refine s_move hE rfl rfl ?_; clear hE a; intro a hE
  refine s_move hE rfl rfl ?_; clear hE a; intro a hE
  refine s_bin hE rfl rfl bin_neq rfl ?_; clear hE a; intro a hE
  refine q_nil ?_
  replace hE : Env a 149 [(1, _), (2, _), (3, _), (6, _), (7, _), (8, _), (9, _), (34, _)] := hE.sel [1, 2, 3, 6, 7, 8, 9, 34] rfl
  refine hK5 _ _ ?_
  replace hE := hE.cast 34 rfl (show _ = Value.bool false from (congrArg Value.bool (by rfl)))
  refine wp_cond_false (hE.eval rfl) ?_
  refine wp_skip ?_
  refine hK4 _ _ ?_
  refine wp_seq_k (fun K6 hK6 => ?_)
  refine wp_seq_k (fun K7 hK7 => ?_)
  refine wp_plain [true, true] rfl rfl ?_
  refine s_move hE rfl rfl ?_; clear hE a; intro a hE
  refine s_bin hE rfl rfl bin_neq rfl ?_; clear hE a; intro a hE
  refine q_nil ?_
  replace hE : Env a 149 [(1, _), (2, _), (3, _), (6, _), (7, _), (8, _), (9, _), (34, _), (36, _)] := hE.sel [1, 2, 3, 6, 7, 8, 9, 34, 36] rfl
  refine hK7 _ _ ?_
  replace hE := hE.cast 36 rfl (show _ = Value.bool false from (congrArg Value.bool (by rfl)))
  refine wp_cond_false (hE.eval rfl) ?_
  refine wp_skip ?_
  refine hK6 _ _ ?_
  refine wp_seq_k (fun K8 hK8 => ?_)
  refine wp_seq_k (fun K9 hK9 => ?_)
  refine wp_plain [true] rfl rfl ?_
  refine s_assign hE rfl rfl ?_; clear hE a; intro a hE
  refine q_nil ?_
  refine hK9 _ _ ?_
  refine wp_block ?_
  replace hM : Mem _ _ w3 [_, _, _, _, _, _, _] := hM.pick [2, 3, 0, 1, 5, 6, 4] rfl
  replace hM : Mem _ _ w3 [_, _, _, _, _, _] := hM.pick [0, 1, 2, 3, 4, 5] rfl
  refine c_loop (fun (i : Nat) a w' => i ≤ ts.length ∧ i ≤ 30 ∧ ∃ vc vd, Env a 149 [(1, v1), (2, v2), (7, .pointer (some ⟨pc, 0, none⟩)), (9, .pointer (some ⟨pd, 0, none⟩)), (11, .int .i64 (i : Int))] ∧ Mem w [] w' [blk pc [[vc]] [1] 56, own vc 33 (histL c0 (ts.take i)).length (cls (histL c0 (ts.take i))), blk pd [[vd]] [1] 56, own vd 33 (histL c0 (ts.take i)).length (cls (histL c0 (ts.take i))), rd v1 32 ts.length c1 (ts.flatMap bv), rd v2 32 us.length c2 (us.flatMap bv)]) (fun i => 30 - i) 0 ⟨Nat.zero_le _, Nat.zero_le _, _, _, hE.sel [1, 2, 7, 9, 11] rfl, hM⟩ ?_
  clear hE hM a; rintro i a w4 ⟨hi, hi2, vc, vd, hE, hM⟩
  obtain ⟨kc, kl⟩ := OkH.hist h0 (show c0.1 ≤ mostC from by omega) i ts hts
  have kl2 := (advL_len (histL c0 (ts.take i)) (ts.getD i [])).1
  refine wp_seq_k (fun K10 hK10 => ?_)
  refine wp_seq_k (fun K11 hK11 => ?_)
  refine wp_plain [true, true, true, true, true, true, true, true] rfl rfl ?_
  refine s_move hE rfl rfl ?_; clear hE a; intro a hE
  refine s_move hE rfl rfl ?_; clear hE a; intro a hE
  refine s_len hE rfl Try.underlying27 (rd_slice (hM.get 4 rfl)) rfl ?_; clear hE a; intro a hE
  refine s_bin hE rfl rfl bin_lss rfl ?_; clear hE a; intro a hE
  refine s_move hE rfl rfl ?_; clear hE a; intro a hE
  refine hE.split 42 rfl (fun hb42 hE' => ?_) (fun hb42 hE' => ?_)
  · replace hE := hE'; clear hE'
    replace hb42 := of_decide_eq_true hb42
    replace hb42 : i < ts.length := by omega
    refine g_yes hE rfl rfl ?_
    refine s_move hE rfl rfl ?_; clear hE a; intro a hE
    refine g_yes hE rfl rfl ?_
    refine s_bin hE rfl rfl bin_lss rfl ?_; clear hE a; intro a hE
    refine s_pickt hE rfl rfl rfl ?_; clear hE a; intro a hE
    refine q_nil ?_
    replace hE : Env a 149 [(1, _), (2, _), (7, _), (9, _), (11, _), (45, _)] := hE.sel [1, 2, 7, 9, 11, 45] rfl
    refine hK11 _ _ ?_
    refine hE.split 45 rfl (fun hb45 hE' => ?_) (fun hb45 hE' => ?_)
    · replace hE := hE'; clear hE'
      replace hb45 := of_decide_eq_true hb45
      have hlab := ts_get hts hb42
      refine wp_cond_true (hE.eval rfl) ?_
      refine wp_skip ?_
      refine hK10 _ _ ?_
      refine wp_seq_k (fun K12 hK12 => ?_)
      refine wp_block ?_
      refine wp_seq_k (fun K13 hK13 => ?_)
      refine wp_plain [true, true, true, true, true, false, true, true, true, true, true] rfl rfl ?_
      refine s_move hE rfl rfl ?_; clear hE a; intro a hE
      refine s_move hE rfl rfl ?_; clear hE a; intro a hE
      refine s_move hE rfl rfl ?_; clear hE a; intro a hE
      refine s_indexRd (j := i) hE rfl (hM.get 4 rfl) rfl slt27 (by first | rfl | omega) (by first | omega | (simp; omega) | decide) rfl ?_; clear hE a; intro a p52 hE hc52 hp52
      rw [flat_elem (d := []) htl hb42] at hc52
      refine s_loadAtN hE rfl hc52 (by rw [bv_length, hlab]; exact row24) (by intro X h; cases h) rfl ?_; clear hE a; intro a hE
      have hap := apart_of_get hM.apart (i := 0) (j := 1) rfl rfl (by decide)
      refine s_call hE rfl Try.call9 (cadvO_c pc vc (histL c0 (ts.take i)) (ts.getD i []) _ (hM.get 0 rfl) (hM.get 1 rfl) (hap.1 _ (.head _)).1 kc.ok kc.pos (by first | omega | decide) hlab kc.top) rfl ?_; clear hap
      rintro e w5 ⟨vc54, rfl, hN⟩
      refine ⟨_, rfl, trivial, ?_⟩; clear hE a; intro a hE
      replace hM : Mem _ _ w5 [_, _, _, _, _, _] := hM.call2 hN ⟨rfl, rfl, trivial⟩; clear hN
      have kc54 := kc.adv (lab := (ts.getD i [])) hlab
      refine s_move hE rfl rfl ?_; clear hE a; intro a hE
      refine s_extract hE rfl rfl rfl ?_; clear hE a; intro a hE
      refine s_extract hE rfl rfl rfl ?_; clear hE a; intro a hE
      refine s_assign hE rfl rfl ?_; clear hE a; intro a hE
      refine s_assign hE rfl rfl ?_; clear hE a; intro a hE
      refine q_nil ?_
      replace hE : Env a 149 [(1, _), (2, _), (7, _), (9, _), (11, _), (12, _), (13, _), (45, _)] := hE.sel [1, 2, 7, 9, 11, 12, 13, 45] rfl
      refine hK13 _ _ ?_
      refine wp_seq_k (fun K14 hK14 => ?_)
      refine wp_plain [true, true, true, true, true, false, true, true, true, true, true] rfl rfl ?_
      refine s_move hE rfl rfl ?_; clear hE a; intro a hE
      refine s_move hE rfl rfl ?_; clear hE a; intro a hE
      refine s_move hE rfl rfl ?_; clear hE a; intro a hE
      refine s_indexRd (j := i) hE rfl (hM.get 4 rfl) rfl slt27 (by first | rfl | omega) (by first | omega | (simp; omega) | decide) rfl ?_; clear hE a; intro a p61 hE hc61 hp61
      rw [flat_elem (d := []) htl hb42] at hc61
      refine s_loadAtN hE rfl hc61 (by rw [bv_length, hlab]; exact row24) (by intro X h; cases h) rfl ?_; clear hE a; intro a hE
      replace hM : Mem _ _ w5 [_, _, _, _, _, _] := hM.pick [2, 3, 0, 1, 4, 5] rfl
      have hap := apart_of_get hM.apart (i := 0) (j := 1) rfl rfl (by decide)
      refine s_call hE rfl Try.call9 (cadvO_c pd vd (histL c0 (ts.take i)) (ts.getD i []) _ (hM.get 0 rfl) (hM.get 1 rfl) (hap.1 _ (.head _)).1 kc.ok kc.pos (by first | omega | decide) hlab kc.top) rfl ?_; clear hap
      rintro e w6 ⟨vd63, rfl, hN⟩
      refine ⟨_, rfl, trivial, ?_⟩; clear hE a; intro a hE
      replace hM : Mem _ _ w6 [_, _, _, _, _, _] := hM.call2 hN ⟨rfl, rfl, trivial⟩; clear hN
      have kd63 := kc.adv (lab := (ts.getD i [])) hlab
      refine s_move hE rfl rfl ?_; clear hE a; intro a hE
      refine s_extract hE rfl rfl rfl ?_; clear hE a; intro a hE
      refine s_extract hE rfl rfl rfl ?_; clear hE a; intro a hE
      refine s_assign hE rfl rfl ?_; clear hE a; intro a hE
      refine s_assign hE rfl rfl ?_; clear hE a; intro a hE
      refine q_nil ?_
      replace hE : Env a 149 [(1, _), (2, _), (7, _), (9, _), (11, _), (12, _), (13, _), (14, _), (15, _), (45, _)] := hE.sel [1, 2, 7, 9, 11, 12, 13, 14, 15, 45] rfl
      refine hK14 _ _ ?_
      refine wp_seq_k (fun K15 hK15 => ?_)
      refine wp_plain [true, true, true, true, true, true, true, true] rfl rfl ?_
      refine s_move hE rfl rfl ?_; clear hE a; intro a hE
      refine s_move hE rfl rfl ?_; clear hE a; intro a hE
      refine s_bin hE rfl rfl bin_neq rfl ?_; clear hE a; intro a hE
      refine s_move hE rfl rfl ?_; clear hE a; intro a hE
      replace hE := hE.cast 69 rfl (show _ = Value.bool false from (congrArg Value.bool (by simp)))
      refine g_yes hE rfl rfl ?_
      refine s_move hE rfl rfl ?_; clear hE a; intro a hE
      refine g_yes hE rfl rfl ?_
      refine s_move hE rfl rfl ?_; clear hE a; intro a hE
      refine g_yes hE rfl rfl ?_
      refine s_bin hE rfl rfl bin_neq rfl ?_; clear hE a; intro a hE
      refine s_pickf hE rfl rfl rfl ?_; clear hE a; intro a hE
      refine q_nil ?_
      replace hE : Env a 149 [(1, _), (2, _), (7, _), (9, _), (11, _), (12, _), (13, _), (14, _), (15, _), (45, _), (73, _)] := hE.sel [1, 2, 7, 9, 11, 12, 13, 14, 15, 45, 73] rfl
      refine hK15 _ _ ?_
      replace hE := hE.cast 73 rfl (show _ = Value.bool false from (congrArg Value.bool (by simp)))
      refine wp_cond_false (hE.eval rfl) ?_
      refine wp_skip ?_
      refine q_block_n ?_
      refine hK12 _ _ ?_
      refine wp_plain [true, true, true] rfl rfl ?_
      refine s_move hE rfl rfl ?_; clear hE a; intro a hE
      refine s_bin hE rfl rfl (bin_add (wrap_i64 (by omega) (by omega))) rfl ?_; clear hE a; intro a hE
      refine s_assign hE rfl rfl ?_; clear hE a; intro a hE
      refine q_nil ?_
      replace hE : Env a 149 [(1, _), (2, _), (7, _), (9, _), (11, _), (12, _), (13, _), (14, _), (15, _), (45, _), (73, _)] := hE.sel [1, 2, 7, 9, 11, 12, 13, 14, 15, 45, 73] rfl
      replace hE := hE.cast 11 rfl (show _ = Value.int .i64 ((i + 1 : Nat) : Int) from congrArg _ (by omega))
      replace hM : Mem _ _ w6 [_, _, _, _, _, _] := hM.pick [2, 3, 0, 1, 4, 5] rfl
      rw [hist_succ (c0 := c0) hb42] at hM
      exact ⟨i + 1, ⟨by omega, by omega, _, _, hE.sel [1, 2, 7, 9, 11] rfl, hM⟩, by omega⟩
    · replace hE := hE'; clear hE'
      replace hb45 := of_decide_eq_false hb45
      refine wp_cond_false (hE.eval rfl) ?_
      refine wp_exit ?_
      refine q_then_e ?_
      refine q_then_e ?_
      refine q_block_x ?_
      refine hK8 _ _ ?_
      refine wp_seq_k (fun K12 hK12 => ?_)
      refine wp_plain [true, false, true] rfl rfl ?_
      generalize i = N at *
      have kN := kc
      refine s_move hE rfl rfl ?_; clear hE a; intro a hE
      replace hM : Mem _ _ w4 [_, _, _, _, _, _] := hM.pick [1, 0, 2, 3, 4, 5] rfl
      obtain ⟨cc, hM⟩ := hM.freeze
      refine s_call hE rfl Try.call13 (ccopy_c pc vc (histL c0 (ts.take N)) _ _ (hM.get 1 rfl) (hM.get 0 rfl) kN.pos) rfl ?_
      rintro e w5 ⟨px, vx, rfl, hrx, hsx, hN⟩
      refine ⟨_, rfl, trivial, ?_⟩; clear hE a; intro a hE
      replace hM : Mem _ _ w5 [_, _, _, _, _, _, _] := hM.call0 hN ⟨rfl, trivial⟩; clear hN
      replace hM := hM.addPart 1 rfl hrx hsx
      refine s_assign hE rfl rfl ?_; clear hE a; intro a hE
      refine q_nil ?_
      replace hE : Env a 149 [(1, _), (2, _), (7, _), (9, _), (11, _), (16, _), (45, _)] := hE.sel [1, 2, 7, 9, 11, 16, 45] rfl
      refine hK12 _ _ ?_
      refine wp_seq_k (fun K13 hK13 => ?_)
      refine wp_seq_k (fun K14 hK14 => ?_)
      refine wp_plain [true] rfl rfl ?_
      refine s_assign hE rfl rfl ?_; clear hE a; intro a hE
      refine q_nil ?_
      refine hK14 _ _ ?_
      refine wp_block ?_
      replace hM : Mem _ _ w5 [_, _, _, _, _, _, _, _] := hM.pick [1, 0, 4, 5, 3, 2, 6, 7] rfl
      skip
      refine c_loop (fun (j : Nat) a w' => j ≤ us.length ∧ j ≤ 30 ∧ ∃ b vx vd, Env a 149 [(1, v1), (2, v2), (7, .pointer (some ⟨pc, 0, none⟩)), (9, .pointer (some ⟨pd, 0, none⟩)), (16, .pointer (some ⟨px, 0, none⟩)), (17, .int .i64 (j : Int))] ∧ Mem w [] w' [blk px [[vx]] [1] 56, hv b vx 33 ((us.take j).foldl advL (histL c0 (ts.take N))).length (cls ((us.take j).foldl advL (histL c0 (ts.take N)))), blk pd [[vd]] [1] 56, own vd 33 ((us.take j).foldl advL (histL c0 (ts.take N))).length (cls ((us.take j).foldl advL (histL c0 (ts.take N)))), blk pc [[vc]] [1] 56, rd vc 33 (histL c0 (ts.take N)).length cc (cls (histL c0 (ts.take N))), rd v1 32 ts.length c1 (ts.flatMap bv), rd v2 32 us.length c2 (us.flatMap bv)]) (fun j => 30 - j) 0 ⟨Nat.zero_le _, Nat.zero_le _, false, _, _, hE.sel [1, 2, 7, 9, 16, 17] rfl, hM⟩ ?_
      clear hE hM a; rintro j a w6 ⟨hj, hj2, b, vx, vd, hE, hM⟩
      obtain ⟨k2, kl3, _, _⟩ := kN.fold j us hus
      have kl4 := (advL_len ((us.take j).foldl advL (histL c0 (ts.take N))) (us.getD j [])).1
      refine wp_seq_k (fun K15 hK15 => ?_)
      refine wp_seq_k (fun K16 hK16 => ?_)
      refine wp_plain [true, true, true, true, true, true, true, true] rfl rfl ?_
      refine s_move hE rfl rfl ?_; clear hE a; intro a hE
      refine s_move hE rfl rfl ?_; clear hE a; intro a hE
      refine s_len hE rfl Try.underlying27 (rd_slice (hM.get 7 rfl)) rfl ?_; clear hE a; intro a hE
      refine s_bin hE rfl rfl bin_lss rfl ?_; clear hE a; intro a hE
      refine s_move hE rfl rfl ?_; clear hE a; intro a hE
      refine hE.split 80 rfl (fun hb80 hE' => ?_) (fun hb80 hE' => ?_)
      · replace hE := hE'; clear hE'
        replace hb80 := of_decide_eq_true hb80
        replace hb80 : j < us.length := by omega
        refine g_yes hE rfl rfl ?_
        refine s_move hE rfl rfl ?_; clear hE a; intro a hE
        refine g_yes hE rfl rfl ?_
        refine s_bin hE rfl rfl bin_lss rfl ?_; clear hE a; intro a hE
        refine s_pickt hE rfl rfl rfl ?_; clear hE a; intro a hE
        refine q_nil ?_
        replace hE : Env a 149 [(1, _), (2, _), (7, _), (9, _), (16, _), (17, _), (83, _)] := hE.sel [1, 2, 7, 9, 16, 17, 83] rfl
        refine hK16 _ _ ?_
        refine hE.split 83 rfl (fun hb83 hE' => ?_) (fun hb83 hE' => ?_)
        · replace hE := hE'; clear hE'
          replace hb83 := of_decide_eq_true hb83
          have hlab2 := ts_get hus hb80
          refine wp_cond_true (hE.eval rfl) ?_
          refine wp_skip ?_
          refine hK15 _ _ ?_
          refine wp_seq_k (fun K17 hK17 => ?_)
          refine wp_block ?_
          refine wp_seq_k (fun K18 hK18 => ?_)
          refine wp_plain [true, true, true, true, true, false] rfl rfl ?_
          refine s_move hE rfl rfl ?_; clear hE a; intro a hE
          refine s_move hE rfl rfl ?_; clear hE a; intro a hE
          refine s_move hE rfl rfl ?_; clear hE a; intro a hE
          refine s_indexRd (j := j) hE rfl (hM.get 7 rfl) rfl slt27 (by first | rfl | omega) (by first | omega | (simp; omega) | decide) rfl ?_; clear hE a; intro a p89 hE hc89 hp89
          rw [flat_elem (d := []) hul hb80] at hc89
          refine s_loadAtN hE rfl hc89 (by rw [bv_length, hlab2]; exact row24) (by intro X h; cases h) rfl ?_; clear hE a; intro a hE
          have hap := apart_of_get hM.apart (i := 0) (j := 1) rfl rfl (by decide)
          refine s_call hE rfl Try.call9 (cadv_c b px vx (((us.take j).foldl advL (histL c0 (ts.take N)))) (us.getD j []) _ (hM.get 0 rfl) (hM.get 1 rfl) (hap.1 _ (.head _)) k2.ok k2.pos (by first | omega | decide) hlab2 k2.top) rfl ?_; clear hap
          rintro e w7 ⟨vx91, rfl, hro, hN⟩
          refine ⟨_, rfl, trivial, ?_⟩; clear hE a; intro a hE
          replace hM : Mem _ _ w7 [_, _, _, _, _, _, _, _] := hM.call2R hN rfl hro; clear hN hro
          have kx91 := k2.adv (lab := (us.getD j [])) hlab2
          refine q_nil ?_
          replace hE : Env a 149 [(1, _), (2, _), (7, _), (9, _), (16, _), (17, _), (83, _)] := hE.sel [1, 2, 7, 9, 16, 17, 83] rfl
          refine hK18 _ _ ?_
          refine wp_plain [true, true, true, true, true, false] rfl rfl ?_
          refine s_move hE rfl rfl ?_; clear hE a; intro a hE
          refine s_move hE rfl rfl ?_; clear hE a; intro a hE
          refine s_move hE rfl rfl ?_; clear hE a; intro a hE
          refine s_indexRd (j := j) hE rfl (hM.get 7 rfl) rfl slt27 (by first | rfl | omega) (by first | omega | (simp; omega) | decide) rfl ?_; clear hE a; intro a p95 hE hc95 hp95
          rw [flat_elem (d := []) hul hb80] at hc95
          refine s_loadAtN hE rfl hc95 (by rw [bv_length, hlab2]; exact row24) (by intro X h; cases h) rfl ?_; clear hE a; intro a hE
          replace hM : Mem _ _ w7 [_, _, _, _, _, _, _, _] := hM.pick [2, 3, 0, 1, 4, 5, 6, 7] rfl
          have hap := apart_of_get hM.apart (i := 0) (j := 1) rfl rfl (by decide)
          refine s_call hE rfl Try.call9 (cadvO_c pd vd (((us.take j).foldl advL (histL c0 (ts.take N)))) (us.getD j []) _ (hM.get 0 rfl) (hM.get 1 rfl) (hap.1 _ (.head _)).1 k2.ok k2.pos (by first | omega | decide) hlab2 k2.top) rfl ?_; clear hap
          rintro e w8 ⟨vd97, rfl, hN⟩
          refine ⟨_, rfl, trivial, ?_⟩; clear hE a; intro a hE
          replace hM : Mem _ _ w8 [_, _, _, _, _, _, _, _] := hM.call2 hN ⟨rfl, rfl, trivial⟩; clear hN
          have kd97 := k2.adv (lab := (us.getD j [])) hlab2
          refine q_nil ?_
          replace hE : Env a 149 [(1, _), (2, _), (7, _), (9, _), (16, _), (17, _), (83, _)] := hE.sel [1, 2, 7, 9, 16, 17, 83] rfl
          refine q_block_n ?_
          refine hK17 _ _ ?_
          refine wp_plain [true, true, true] rfl rfl ?_
          refine s_move hE rfl rfl ?_; clear hE a; intro a hE
          refine s_bin hE rfl rfl (bin_add (wrap_i64 (by omega) (by omega))) rfl ?_; clear hE a; intro a hE
          refine s_assign hE rfl rfl ?_; clear hE a; intro a hE
          refine q_nil ?_
          replace hE : Env a 149 [(1, _), (2, _), (7, _), (9, _), (16, _), (17, _), (83, _)] := hE.sel [1, 2, 7, 9, 16, 17, 83] rfl
          replace hE := hE.cast 17 rfl (show _ = Value.int .i64 ((j + 1 : Nat) : Int) from congrArg _ (by omega))
          replace hM : Mem _ _ w8 [_, _, _, _, _, _, _, _] := hM.pick [2, 3, 0, 1, 4, 5, 6, 7] rfl
          rw [fold_succ hb80] at hM
          exact ⟨j + 1, ⟨by omega, by omega, _, _, _, hE.sel [1, 2, 7, 9, 16, 17] rfl, hM⟩, by omega⟩
        · replace hE := hE'; clear hE'
          replace hb83 := of_decide_eq_false hb83
          refine wp_cond_false (hE.eval rfl) ?_
          refine wp_exit ?_
          refine q_then_e ?_
          refine q_then_e ?_
          refine q_block_x ?_
          refine hK13 _ _ ?_
          refine wp_seq_k (fun K17 hK17 => ?_)
          refine wp_plain [true, false, true, false, true, false, true, true, true] rfl rfl ?_
          generalize j = J at *
          have kJ := k2
          obtain ⟨_, _, lJ, gJ⟩ := kN.fold J us hus
          refine s_move hE rfl rfl ?_; clear hE a; intro a hE
          refine s_call hE rfl Try.call11 (chist_c pc vc (histL c0 (ts.take N)) _ _ (hM.get 4 rfl) (hM.get 5 rfl) kN.pos (by omega)) rfl ?_
          rintro e w7 ⟨vo1, rfl, hN⟩
          refine ⟨_, rfl, trivial, ?_⟩; clear hE a; intro a hE
          replace hM : Mem _ _ w7 [_, _, _, _, _, _, _, _, _] := hM.call0 hN ⟨rfl, trivial⟩; clear hN
          refine s_move hE rfl rfl ?_; clear hE a; intro a hE
          obtain ⟨cr101, hr101⟩ := hv_rd (hM.get 2 rfl)
          refine s_call hE rfl Try.call11 (chist_c px vx (((us.take J).foldl advL (histL c0 (ts.take N)))) _ _ (hM.get 1 rfl) hr101 kJ.pos (by omega)) rfl ?_
          rintro e w8 ⟨vo2, rfl, hN⟩
          refine ⟨_, rfl, trivial, ?_⟩; clear hE a; intro a hE
          replace hM : Mem _ _ w8 [_, _, _, _, _, _, _, _, _, _] := hM.call0 hN ⟨rfl, trivial⟩; clear hN
          refine s_move hE rfl rfl ?_; clear hE a; intro a hE
          obtain ⟨cr103, hr103⟩ := own_rd (hM.get 5 rfl)
          refine s_call hE rfl Try.call11 (chist_c pd vd (((us.take J).foldl advL (histL c0 (ts.take N)))) _ _ (hM.get 4 rfl) hr103 kJ.pos (by omega)) rfl ?_
          rintro e w9 ⟨vo3, rfl, hN⟩
          refine ⟨_, rfl, trivial, ?_⟩; clear hE a; intro a hE
          replace hM : Mem _ _ w9 [_, _, _, _, _, _, _, _, _, _, _] := hM.call0 hN ⟨rfl, trivial⟩; clear hN
          refine s_assign hE rfl rfl ?_; clear hE a; intro a hE
          refine s_assign hE rfl rfl ?_; clear hE a; intro a hE
          refine s_assign hE rfl rfl ?_; clear hE a; intro a hE
          refine q_nil ?_
          replace hE : Env a 149 [(1, _), (2, _), (7, _), (9, _), (16, _), (17, _), (18, _), (19, _), (20, _), (83, _)] := hE.sel [1, 2, 7, 9, 16, 17, 18, 19, 20, 83] rfl
          refine hK17 _ _ ?_
          refine wp_seq_k (fun K18 hK18 => ?_)
          refine wp_seq_k (fun K19 hK19 => ?_)
          refine wp_plain [true, true, true, true, true, true, true, true, true, true, true, true] rfl rfl ?_
          refine s_move hE rfl rfl ?_; clear hE a; intro a hE
          refine s_len hE rfl Try.underlying37 (own_slice (hM.get 2 rfl)) rfl ?_; clear hE a; intro a hE
          refine s_move hE rfl rfl ?_; clear hE a; intro a hE
          refine s_len hE rfl Try.underlying37 (own_slice (hM.get 1 rfl)) rfl ?_; clear hE a; intro a hE
          refine s_bin hE rfl rfl bin_gtr rfl ?_; clear hE a; intro a hE
          refine s_move hE rfl rfl ?_; clear hE a; intro a hE
          replace hE := hE.cast 109 rfl (show _ = Value.bool false from (congrArg Value.bool (decide_eq_false (by omega))))
          refine g_yes hE rfl rfl ?_
          refine s_move hE rfl rfl ?_; clear hE a; intro a hE
          refine g_yes hE rfl rfl ?_
          refine s_len hE rfl Try.underlying37 (own_slice (hM.get 1 rfl)) rfl ?_; clear hE a; intro a hE
          refine g_yes hE rfl rfl ?_
          refine s_move hE rfl rfl ?_; clear hE a; intro a hE
          refine g_yes hE rfl rfl ?_
          refine s_len hE rfl Try.underlying37 (own_slice (hM.get 0 rfl)) rfl ?_; clear hE a; intro a hE
          refine g_yes hE rfl rfl ?_
          refine s_bin hE rfl rfl bin_neq rfl ?_; clear hE a; intro a hE
          refine s_pickf hE rfl rfl rfl ?_; clear hE a; intro a hE
          refine q_nil ?_
          replace hE : Env a 149 [(1, _), (2, _), (7, _), (9, _), (16, _), (17, _), (18, _), (19, _), (20, _), (83, _), (115, _)] := hE.sel [1, 2, 7, 9, 16, 17, 18, 19, 20, 83, 115] rfl
          refine hK19 _ _ ?_
          replace hE := hE.cast 115 rfl (show _ = Value.bool false from (congrArg Value.bool (by simp)))
          refine wp_cond_false (hE.eval rfl) ?_
          refine wp_skip ?_
          refine hK18 _ _ ?_
          refine wp_seq_k (fun K20 hK20 => ?_)
          refine wp_seq_k (fun K21 hK21 => ?_)
          refine wp_plain [true] rfl rfl ?_
          refine s_assign hE rfl rfl ?_; clear hE a; intro a hE
          refine q_nil ?_
          refine hK21 _ _ ?_
          refine wp_block ?_
          replace hM : Mem _ _ w9 [_, _, _, _, _, _, _, _, _, _, _] := hM.pick [2, 1, 0, 3, 4, 5, 6, 7, 8, 9, 10] rfl
          replace hM : Mem _ _ w9 [_, _, _] := hM.pick [0, 1, 2] rfl
          refine c_loop (fun (k : Nat) a w' => k ≤ ((us.take J).foldl advL (histL c0 (ts.take N))).length ∧ Env a 149 [(18, vo1), (19, vo2), (20, vo3), (21, .int .i64 (k : Int))] ∧ Mem w [] w' [own vo1 33 (histL c0 (ts.take N)).length (cls (histL c0 (ts.take N))), own vo2 33 ((us.take J).foldl advL (histL c0 (ts.take N))).length (cls ((us.take J).foldl advL (histL c0 (ts.take N)))), own vo3 33 ((us.take J).foldl advL (histL c0 (ts.take N))).length (cls ((us.take J).foldl advL (histL c0 (ts.take N))))]) (fun k => ((us.take J).foldl advL (histL c0 (ts.take N))).length - k) 0 ⟨Nat.zero_le _, hE.sel [18, 19, 20, 21] rfl, hM⟩ ?_
          clear hE hM a; rintro k a w10 ⟨hk, hE, hM⟩
          refine wp_seq_k (fun K22 hK22 => ?_)
          refine wp_seq_k (fun K23 hK23 => ?_)
          refine wp_plain [true, true, true, true] rfl rfl ?_
          refine s_move hE rfl rfl ?_; clear hE a; intro a hE
          refine s_move hE rfl rfl ?_; clear hE a; intro a hE
          refine s_len hE rfl Try.underlying37 (own_slice (hM.get 1 rfl)) rfl ?_; clear hE a; intro a hE
          refine s_bin hE rfl rfl bin_lss rfl ?_; clear hE a; intro a hE
          refine q_nil ?_
          replace hE : Env a 149 [(18, _), (19, _), (20, _), (21, _), (119, _)] := hE.sel [18, 19, 20, 21, 119] rfl
          refine hK23 _ _ ?_
          refine hE.split 119 rfl (fun hb119 hE' => ?_) (fun hb119 hE' => ?_)
          · replace hE := hE'; clear hE'
            replace hb119 := of_decide_eq_true hb119
            replace hb119 : k < ((us.take J).foldl advL (histL c0 (ts.take N))).length := by omega
            refine wp_cond_true (hE.eval rfl) ?_
            refine wp_skip ?_
            refine hK22 _ _ ?_
            refine wp_seq_k (fun K24 hK24 => ?_)
            refine wp_block ?_
            refine wp_seq_k (fun K25 hK25 => ?_)
            refine wp_drawnM hM (by kernel_rfl) (fun _ => False) [(0, true), (1, true), (2, true), (3, true), (4, true), (5, true), (6, true), (7, true), (8, true), (9, true), (10, true), (11, true), (12, true), (13, true), (14, true), (15, true), (16, true), (17, true), (18, true), (19, true), (20, true), (21, true), (22, true), (23, true), (24, true), (25, true)] [] (by kernel_rfl) rfl ?_
            intro w11 hM' hww11; clear hM; have hM := hM'; clear hM'
            refine s_move hE rfl rfl ?_; clear hE a; intro a hE
            refine s_move hE rfl rfl ?_; clear hE a; intro a hE
            refine s_len hE rfl Try.underlying37 (own_slice (hM.get 0 rfl)) rfl ?_; clear hE a; intro a hE
            refine s_bin hE rfl rfl bin_lss rfl ?_; clear hE a; intro a hE
            refine s_move hE rfl rfl ?_; clear hE a; intro a hE
            refine hE.split 126 rfl (fun hb126 hE' => ?_) (fun hb126 hE' => ?_)
            · replace hE := hE'; clear hE'
              replace hb126 := of_decide_eq_true hb126
              replace hb126 : k < (histL c0 (ts.take N)).length := by omega
              refine g_yes hE rfl rfl ?_
              refine s_move hE rfl rfl ?_; clear hE a; intro a hE
              refine g_yes hE rfl rfl ?_
              refine s_move hE rfl rfl ?_; clear hE a; intro a hE
              refine g_yes hE rfl rfl ?_
              obtain ⟨cx129, hx129⟩ := own_rd (hM.get 0 rfl)
              refine s_indexRd (j := k) hE rfl hx129 rfl slt37 (by first | rfl | omega) (by first | omega | (simp; omega) | decide) rfl ?_; clear hE a; intro a p129 hE hc129 hp129
              rw [cls_elem kN.ok hb126] at hc129
              refine g_yes hE rfl rfl ?_
              refine s_loadAtN hE rfl hc129 (by rw [cl_len (kN.get hb126)]; exact row26) (by intro X h; cases h; simp) rfl ?_; clear hE a; intro a hE
              refine g_yes hE rfl rfl ?_
              refine s_move hE rfl rfl ?_; clear hE a; intro a hE
              refine g_yes hE rfl rfl ?_
              refine s_move hE rfl rfl ?_; clear hE a; intro a hE
              refine g_yes hE rfl rfl ?_
              obtain ⟨cx133, hx133⟩ := own_rd (hM.get 1 rfl)
              refine s_indexRd (j := k) hE rfl hx133 rfl slt37 (by first | rfl | omega) (by first | omega | (simp; omega) | decide) rfl ?_; clear hE a; intro a p133 hE hc133 hp133
              rw [cls_elem kJ.ok hb119] at hc133
              refine g_yes hE rfl rfl ?_
              refine s_loadAtN hE rfl hc133 (by rw [cl_len (kJ.get hb119)]; exact row26) (by intro X h; cases h; simp) rfl ?_; clear hE a; intro a hE
              refine g_yes hE rfl rfl ?_
              refine s_bin hE rfl rfl (eqCl (kN.get hb126) (kJ.get hb119)).2 rfl ?_; clear hE a; intro a hE
              refine s_pickt hE rfl rfl rfl ?_; clear hE a; intro a hE
              refine s_move hE rfl rfl ?_; clear hE a; intro a hE
              replace hE := hE.cast 137 rfl (show _ = Value.bool false from (congrArg Value.bool (by rw [gJ k hb126]; simp)))
              refine g_yes hE rfl rfl ?_
              refine s_move hE rfl rfl ?_; clear hE a; intro a hE
              refine g_yes hE rfl rfl ?_
              refine s_move hE rfl rfl ?_; clear hE a; intro a hE
              refine g_yes hE rfl rfl ?_
              obtain ⟨cx140, hx140⟩ := own_rd (hM.get 1 rfl)
              refine s_indexRd (j := k) hE rfl hx140 rfl slt37 (by first | rfl | omega) (by first | omega | (simp; omega) | decide) rfl ?_; clear hE a; intro a p140 hE hc140 hp140
              rw [cls_elem kJ.ok hb119] at hc140
              refine g_yes hE rfl rfl ?_
              refine s_loadAtN hE rfl hc140 (by rw [cl_len (kJ.get hb119)]; exact row26) (by intro X h; cases h; simp) rfl ?_; clear hE a; intro a hE
              refine g_yes hE rfl rfl ?_
              refine s_move hE rfl rfl ?_; clear hE a; intro a hE
              refine g_yes hE rfl rfl ?_
              refine s_move hE rfl rfl ?_; clear hE a; intro a hE
              refine g_yes hE rfl rfl ?_
              obtain ⟨cx144, hx144⟩ := own_rd (hM.get 2 rfl)
              refine s_indexRd (j := k) hE rfl hx144 rfl slt37 (by first | rfl | omega) (by first | omega | (simp; omega) | decide) rfl ?_; clear hE a; intro a p144 hE hc144 hp144
              rw [cls_elem kJ.ok hb119] at hc144
              refine g_yes hE rfl rfl ?_
              refine s_loadAtN hE rfl hc144 (by rw [cl_len (kJ.get hb119)]; exact row26) (by intro X h; cases h; simp) rfl ?_; clear hE a; intro a hE
              refine g_yes hE rfl rfl ?_
              refine s_bin hE rfl rfl (eqCl (kJ.get hb119) (kJ.get hb119)).2 rfl ?_; clear hE a; intro a hE
              refine s_pickf hE rfl rfl rfl ?_; clear hE a; intro a hE
              refine q_nil ?_
              replace hE : Env a 149 [(18, _), (19, _), (20, _), (21, _), (119, _), (147, _)] := hE.sel [18, 19, 20, 21, 119, 147] rfl
              refine hK25 _ _ ?_
              replace hE := hE.cast 147 rfl (show _ = Value.bool false from (congrArg Value.bool (by simp)))
              refine wp_cond_false (hE.eval rfl) ?_
              refine wp_skip ?_
              refine q_block_n ?_
              refine hK24 _ _ ?_
              refine wp_plain [true, true, true] rfl rfl ?_
              refine s_move hE rfl rfl ?_; clear hE a; intro a hE
              refine s_bin hE rfl rfl (bin_add (wrap_i64 (by omega) (by omega))) rfl ?_; clear hE a; intro a hE
              refine s_assign hE rfl rfl ?_; clear hE a; intro a hE
              refine q_nil ?_
              replace hE : Env a 149 [(18, _), (19, _), (20, _), (21, _), (119, _), (147, _)] := hE.sel [18, 19, 20, 21, 119, 147] rfl
              replace hE := hE.cast 21 rfl (show _ = Value.int .i64 ((k + 1 : Nat) : Int) from congrArg _ (by omega))
              exact ⟨k + 1, ⟨by omega, hE.sel [18, 19, 20, 21] rfl, hM⟩, by omega⟩
            · replace hE := hE'; clear hE'
              replace hb126 := of_decide_eq_false hb126
              replace hb126 : ¬ k < (histL c0 (ts.take N)).length := by omega
              refine g_no (b := false) hE rfl rfl rfl ?_; clear hE a; intro a hE
              refine g_no (b := false) hE rfl rfl rfl ?_; clear hE a; intro a hE
              refine g_no (b := false) hE rfl rfl rfl ?_; clear hE a; intro a hE
              refine g_no (b := false) hE rfl rfl rfl ?_; clear hE a; intro a hE
              refine g_no (b := false) hE rfl rfl rfl ?_; clear hE a; intro a hE
              refine g_no (b := false) hE rfl rfl rfl ?_; clear hE a; intro a hE
              refine g_no (b := false) hE rfl rfl rfl ?_; clear hE a; intro a hE
              refine g_no (b := false) hE rfl rfl rfl ?_; clear hE a; intro a hE
              refine g_no (b := false) hE rfl rfl rfl ?_; clear hE a; intro a hE
              refine s_pickf hE rfl rfl rfl ?_; clear hE a; intro a hE
              refine s_move hE rfl rfl ?_; clear hE a; intro a hE
              refine g_yes hE rfl rfl ?_
              refine s_move hE rfl rfl ?_; clear hE a; intro a hE
              refine g_yes hE rfl rfl ?_
              refine s_move hE rfl rfl ?_; clear hE a; intro a hE
              refine g_yes hE rfl rfl ?_
              obtain ⟨cx140, hx140⟩ := own_rd (hM.get 1 rfl)
              refine s_indexRd (j := k) hE rfl hx140 rfl slt37 (by first | rfl | omega) (by first | omega | (simp; omega) | decide) rfl ?_; clear hE a; intro a p140 hE hc140 hp140
              rw [cls_elem kJ.ok hb119] at hc140
              refine g_yes hE rfl rfl ?_
              refine s_loadAtN hE rfl hc140 (by rw [cl_len (kJ.get hb119)]; exact row26) (by intro X h; cases h; simp) rfl ?_; clear hE a; intro a hE
              refine g_yes hE rfl rfl ?_
              refine s_move hE rfl rfl ?_; clear hE a; intro a hE
              refine g_yes hE rfl rfl ?_
              refine s_move hE rfl rfl ?_; clear hE a; intro a hE
              refine g_yes hE rfl rfl ?_
              obtain ⟨cx144, hx144⟩ := own_rd (hM.get 2 rfl)
              refine s_indexRd (j := k) hE rfl hx144 rfl slt37 (by first | rfl | omega) (by first | omega | (simp; omega) | decide) rfl ?_; clear hE a; intro a p144 hE hc144 hp144
              rw [cls_elem kJ.ok hb119] at hc144
              refine g_yes hE rfl rfl ?_
              refine s_loadAtN hE rfl hc144 (by rw [cl_len (kJ.get hb119)]; exact row26) (by intro X h; cases h; simp) rfl ?_; clear hE a; intro a hE
              refine g_yes hE rfl rfl ?_
              refine s_bin hE rfl rfl (eqCl (kJ.get hb119) (kJ.get hb119)).2 rfl ?_; clear hE a; intro a hE
              refine s_pickf hE rfl rfl rfl ?_; clear hE a; intro a hE
              refine q_nil ?_
              replace hE : Env a 149 [(18, _), (19, _), (20, _), (21, _), (119, _), (147, _)] := hE.sel [18, 19, 20, 21, 119, 147] rfl
              refine hK25 _ _ ?_
              replace hE := hE.cast 147 rfl (show _ = Value.bool false from (congrArg Value.bool (by simp)))
              refine wp_cond_false (hE.eval rfl) ?_
              refine wp_skip ?_
              refine q_block_n ?_
              refine hK24 _ _ ?_
              refine wp_plain [true, true, true] rfl rfl ?_
              refine s_move hE rfl rfl ?_; clear hE a; intro a hE
              refine s_bin hE rfl rfl (bin_add (wrap_i64 (by omega) (by omega))) rfl ?_; clear hE a; intro a hE
              refine s_assign hE rfl rfl ?_; clear hE a; intro a hE
              refine q_nil ?_
              replace hE : Env a 149 [(18, _), (19, _), (20, _), (21, _), (119, _), (147, _)] := hE.sel [18, 19, 20, 21, 119, 147] rfl
              replace hE := hE.cast 21 rfl (show _ = Value.int .i64 ((k + 1 : Nat) : Int) from congrArg _ (by omega))
              exact ⟨k + 1, ⟨by omega, hE.sel [18, 19, 20, 21] rfl, hM⟩, by omega⟩
          · replace hE := hE'; clear hE'
            replace hb119 := of_decide_eq_false hb119
            replace hb119 : ¬ k < ((us.take J).foldl advL (histL c0 (ts.take N))).length := by omega
            refine wp_cond_false (hE.eval rfl) ?_
            refine wp_exit ?_
            refine q_then_e ?_
            refine q_then_e ?_
            refine q_block_x ?_
            refine hK20 _ _ ?_
            refine wp_seq_k (fun K24 hK24 => ?_)
            refine wp_plain [false, true] rfl rfl ?_
            refine s_call hE rfl Try.call8 (works12_c _) rfl ?_
            rintro e w11 ⟨rfl, hN⟩
            refine ⟨_, rfl, trivial, ?_⟩; clear hE a; intro a hE
            replace hM : Mem _ _ w11 [_, _, _] := hM.call0 hN trivial; clear hN
            refine s_assign hE rfl rfl ?_; clear hE a; intro a hE
            refine q_nil ?_
            replace hE : Env a 149 [(6, _), (18, _), (19, _), (20, _), (21, _), (119, _)] := hE.sel [6, 18, 19, 20, 21, 119] rfl
            refine hK24 _ _ ?_
            refine wp_ret ?_
            refine f_ret1 hE rfl rfl ?_
            exact ⟨rfl, hM.nil⟩
      · replace hE := hE'; clear hE'
        replace hb80 := of_decide_eq_false hb80
        replace hb80 : ¬ j < us.length := by omega
        refine g_no (b := false) hE rfl rfl rfl ?_; clear hE a; intro a hE
        refine g_no (b := false) hE rfl rfl rfl ?_; clear hE a; intro a hE
        refine s_pickf hE rfl rfl rfl ?_; clear hE a; intro a hE
        refine q_nil ?_
        replace hE : Env a 149 [(1, _), (2, _), (7, _), (9, _), (16, _), (17, _), (83, _)] := hE.sel [1, 2, 7, 9, 16, 17, 83] rfl
        refine hK16 _ _ ?_
        refine wp_cond_false (hE.eval rfl) ?_
        refine wp_exit ?_
        refine q_then_e ?_
        refine q_then_e ?_
        refine q_block_x ?_
        refine hK13 _ _ ?_
        refine wp_seq_k (fun K17 hK17 => ?_)
        refine wp_plain [true, false, true, false, true, false, true, true, true] rfl rfl ?_
        generalize j = J at *
        have kJ := k2
        obtain ⟨_, _, lJ, gJ⟩ := kN.fold J us hus
        refine s_move hE rfl rfl ?_; clear hE a; intro a hE
        refine s_call hE rfl Try.call11 (chist_c pc vc (histL c0 (ts.take N)) _ _ (hM.get 4 rfl) (hM.get 5 rfl) kN.pos (by omega)) rfl ?_
        rintro e w7 ⟨vo1, rfl, hN⟩
        refine ⟨_, rfl, trivial, ?_⟩; clear hE a; intro a hE
        replace hM : Mem _ _ w7 [_, _, _, _, _, _, _, _, _] := hM.call0 hN ⟨rfl, trivial⟩; clear hN
        refine s_move hE rfl rfl ?_; clear hE a; intro a hE
        obtain ⟨cr101, hr101⟩ := hv_rd (hM.get 2 rfl)
        refine s_call hE rfl Try.call11 (chist_c px vx (((us.take J).foldl advL (histL c0 (ts.take N)))) _ _ (hM.get 1 rfl) hr101 kJ.pos (by omega)) rfl ?_
        rintro e w8 ⟨vo2, rfl, hN⟩
        refine ⟨_, rfl, trivial, ?_⟩; clear hE a; intro a hE
        replace hM : Mem _ _ w8 [_, _, _, _, _, _, _, _, _, _] := hM.call0 hN ⟨rfl, trivial⟩; clear hN
        refine s_move hE rfl rfl ?_; clear hE a; intro a hE
        obtain ⟨cr103, hr103⟩ := own_rd (hM.get 5 rfl)
        refine s_call hE rfl Try.call11 (chist_c pd vd (((us.take J).foldl advL (histL c0 (ts.take N)))) _ _ (hM.get 4 rfl) hr103 kJ.pos (by omega)) rfl ?_
        rintro e w9 ⟨vo3, rfl, hN⟩
        refine ⟨_, rfl, trivial, ?_⟩; clear hE a; intro a hE
        replace hM : Mem _ _ w9 [_, _, _, _, _, _, _, _, _, _, _] := hM.call0 hN ⟨rfl, trivial⟩; clear hN
        refine s_assign hE rfl rfl ?_; clear hE a; intro a hE
        refine s_assign hE rfl rfl ?_; clear hE a; intro a hE
        refine s_assign hE rfl rfl ?_; clear hE a; intro a hE
        refine q_nil ?_
        replace hE : Env a 149 [(1, _), (2, _), (7, _), (9, _), (16, _), (17, _), (18, _), (19, _), (20, _), (83, _)] := hE.sel [1, 2, 7, 9, 16, 17, 18, 19, 20, 83] rfl
        refine hK17 _ _ ?_
        refine wp_seq_k (fun K18 hK18 => ?_)
        refine wp_seq_k (fun K19 hK19 => ?_)
        refine wp_plain [true, true, true, true, true, true, true, true, true, true, true, true] rfl rfl ?_
        refine s_move hE rfl rfl ?_; clear hE a; intro a hE
        refine s_len hE rfl Try.underlying37 (own_slice (hM.get 2 rfl)) rfl ?_; clear hE a; intro a hE
        refine s_move hE rfl rfl ?_; clear hE a; intro a hE
        refine s_len hE rfl Try.underlying37 (own_slice (hM.get 1 rfl)) rfl ?_; clear hE a; intro a hE
        refine s_bin hE rfl rfl bin_gtr rfl ?_; clear hE a; intro a hE
        refine s_move hE rfl rfl ?_; clear hE a; intro a hE
        replace hE := hE.cast 109 rfl (show _ = Value.bool false from (congrArg Value.bool (decide_eq_false (by omega))))
        refine g_yes hE rfl rfl ?_
        refine s_move hE rfl rfl ?_; clear hE a; intro a hE
        refine g_yes hE rfl rfl ?_
        refine s_len hE rfl Try.underlying37 (own_slice (hM.get 1 rfl)) rfl ?_; clear hE a; intro a hE
        refine g_yes hE rfl rfl ?_
        refine s_move hE rfl rfl ?_; clear hE a; intro a hE
        refine g_yes hE rfl rfl ?_
        refine s_len hE rfl Try.underlying37 (own_slice (hM.get 0 rfl)) rfl ?_; clear hE a; intro a hE
        refine g_yes hE rfl rfl ?_
        refine s_bin hE rfl rfl bin_neq rfl ?_; clear hE a; intro a hE
        refine s_pickf hE rfl rfl rfl ?_; clear hE a; intro a hE
        refine q_nil ?_
        replace hE : Env a 149 [(1, _), (2, _), (7, _), (9, _), (16, _), (17, _), (18, _), (19, _), (20, _), (83, _), (115, _)] := hE.sel [1, 2, 7, 9, 16, 17, 18, 19, 20, 83, 115] rfl
        refine hK19 _ _ ?_
        replace hE := hE.cast 115 rfl (show _ = Value.bool false from (congrArg Value.bool (by simp)))
        refine wp_cond_false (hE.eval rfl) ?_
        refine wp_skip ?_
        refine hK18 _ _ ?_
        refine wp_seq_k (fun K20 hK20 => ?_)
        refine wp_seq_k (fun K21 hK21 => ?_)
        refine wp_plain [true] rfl rfl ?_
        refine s_assign hE rfl rfl ?_; clear hE a; intro a hE
        refine q_nil ?_
        refine hK21 _ _ ?_
        refine wp_block ?_
        replace hM : Mem _ _ w9 [_, _, _, _, _, _, _, _, _, _, _] := hM.pick [2, 1, 0, 3, 4, 5, 6, 7, 8, 9, 10] rfl
        replace hM : Mem _ _ w9 [_, _, _] := hM.pick [0, 1, 2] rfl
        refine c_loop (fun (k : Nat) a w' => k ≤ ((us.take J).foldl advL (histL c0 (ts.take N))).length ∧ Env a 149 [(18, vo1), (19, vo2), (20, vo3), (21, .int .i64 (k : Int))] ∧ Mem w [] w' [own vo1 33 (histL c0 (ts.take N)).length (cls (histL c0 (ts.take N))), own vo2 33 ((us.take J).foldl advL (histL c0 (ts.take N))).length (cls ((us.take J).foldl advL (histL c0 (ts.take N)))), own vo3 33 ((us.take J).foldl advL (histL c0 (ts.take N))).length (cls ((us.take J).foldl advL (histL c0 (ts.take N))))]) (fun k => ((us.take J).foldl advL (histL c0 (ts.take N))).length - k) 0 ⟨Nat.zero_le _, hE.sel [18, 19, 20, 21] rfl, hM⟩ ?_
        clear hE hM a; rintro k a w10 ⟨hk, hE, hM⟩
        refine wp_seq_k (fun K22 hK22 => ?_)
        refine wp_seq_k (fun K23 hK23 => ?_)
        refine wp_plain [true, true, true, true] rfl rfl ?_
        refine s_move hE rfl rfl ?_; clear hE a; intro a hE
        refine s_move hE rfl rfl ?_; clear hE a; intro a hE
        refine s_len hE rfl Try.underlying37 (own_slice (hM.get 1 rfl)) rfl ?_; clear hE a; intro a hE
        refine s_bin hE rfl rfl bin_lss rfl ?_; clear hE a; intro a hE
        refine q_nil ?_
        replace hE : Env a 149 [(18, _), (19, _), (20, _), (21, _), (119, _)] := hE.sel [18, 19, 20, 21, 119] rfl
        refine hK23 _ _ ?_
        refine hE.split 119 rfl (fun hb119 hE' => ?_) (fun hb119 hE' => ?_)
        · replace hE := hE'; clear hE'
          replace hb119 := of_decide_eq_true hb119
          replace hb119 : k < ((us.take J).foldl advL (histL c0 (ts.take N))).length := by omega
          refine wp_cond_true (hE.eval rfl) ?_
          refine wp_skip ?_
          refine hK22 _ _ ?_
          refine wp_seq_k (fun K24 hK24 => ?_)
          refine wp_block ?_
          refine wp_seq_k (fun K25 hK25 => ?_)
          refine wp_drawnM hM (by kernel_rfl) (fun _ => False) [(0, true), (1, true), (2, true), (3, true), (4, true), (5, true), (6, true), (7, true), (8, true), (9, true), (10, true), (11, true), (12, true), (13, true), (14, true), (15, true), (16, true), (17, true), (18, true), (19, true), (20, true), (21, true), (22, true), (23, true), (24, true), (25, true)] [] (by kernel_rfl) rfl ?_
          intro w11 hM' hww11; clear hM; have hM := hM'; clear hM'
          refine s_move hE rfl rfl ?_; clear hE a; intro a hE
          refine s_move hE rfl rfl ?_; clear hE a; intro a hE
          refine s_len hE rfl Try.underlying37 (own_slice (hM.get 0 rfl)) rfl ?_; clear hE a; intro a hE
          refine s_bin hE rfl rfl bin_lss rfl ?_; clear hE a; intro a hE
          refine s_move hE rfl rfl ?_; clear hE a; intro a hE
          refine hE.split 126 rfl (fun hb126 hE' => ?_) (fun hb126 hE' => ?_)
          · replace hE := hE'; clear hE'
            replace hb126 := of_decide_eq_true hb126
            replace hb126 : k < (histL c0 (ts.take N)).length := by omega
            refine g_yes hE rfl rfl ?_
            refine s_move hE rfl rfl ?_; clear hE a; intro a hE
            refine g_yes hE rfl rfl ?_
            refine s_move hE rfl rfl ?_; clear hE a; intro a hE
            refine g_yes hE rfl rfl ?_
            obtain ⟨cx129, hx129⟩ := own_rd (hM.get 0 rfl)
            refine s_indexRd (j := k) hE rfl hx129 rfl slt37 (by first | rfl | omega) (by first | omega | (simp; omega) | decide) rfl ?_; clear hE a; intro a p129 hE hc129 hp129
            rw [cls_elem kN.ok hb126] at hc129
            refine g_yes hE rfl rfl ?_
            refine s_loadAtN hE rfl hc129 (by rw [cl_len (kN.get hb126)]; exact row26) (by intro X h; cases h; simp) rfl ?_; clear hE a; intro a hE
            refine g_yes hE rfl rfl ?_
            refine s_move hE rfl rfl ?_; clear hE a; intro a hE
            refine g_yes hE rfl rfl ?_
            refine s_move hE rfl rfl ?_; clear hE a; intro a hE
            refine g_yes hE rfl rfl ?_
            obtain ⟨cx133, hx133⟩ := own_rd (hM.get 1 rfl)
            refine s_indexRd (j := k) hE rfl hx133 rfl slt37 (by first | rfl | omega) (by first | omega | (simp; omega) | decide) rfl ?_; clear hE a; intro a p133 hE hc133 hp133
            rw [cls_elem kJ.ok hb119] at hc133
            refine g_yes hE rfl rfl ?_
            refine s_loadAtN hE rfl hc133 (by rw [cl_len (kJ.get hb119)]; exact row26) (by intro X h; cases h; simp) rfl ?_; clear hE a; intro a hE
            refine g_yes hE rfl rfl ?_
            refine s_bin hE rfl rfl (eqCl (kN.get hb126) (kJ.get hb119)).2 rfl ?_; clear hE a; intro a hE
            refine s_pickt hE rfl rfl rfl ?_; clear hE a; intro a hE
            refine s_move hE rfl rfl ?_; clear hE a; intro a hE
            replace hE := hE.cast 137 rfl (show _ = Value.bool false from (congrArg Value.bool (by rw [gJ k hb126]; simp)))
            refine g_yes hE rfl rfl ?_
            refine s_move hE rfl rfl ?_; clear hE a; intro a hE
            refine g_yes hE rfl rfl ?_
            refine s_move hE rfl rfl ?_; clear hE a; intro a hE
            refine g_yes hE rfl rfl ?_
            obtain ⟨cx140, hx140⟩ := own_rd (hM.get 1 rfl)
            refine s_indexRd (j := k) hE rfl hx140 rfl slt37 (by first | rfl | omega) (by first | omega | (simp; omega) | decide) rfl ?_; clear hE a; intro a p140 hE hc140 hp140
            rw [cls_elem kJ.ok hb119] at hc140
            refine g_yes hE rfl rfl ?_
            refine s_loadAtN hE rfl hc140 (by rw [cl_len (kJ.get hb119)]; exact row26) (by intro X h; cases h; simp) rfl ?_; clear hE a; intro a hE
            refine g_yes hE rfl rfl ?_
            refine s_move hE rfl rfl ?_; clear hE a; intro a hE
            refine g_yes hE rfl rfl ?_
            refine s_move hE rfl rfl ?_; clear hE a; intro a hE
            refine g_yes hE rfl rfl ?_
            obtain ⟨cx144, hx144⟩ := own_rd (hM.get 2 rfl)
            refine s_indexRd (j := k) hE rfl hx144 rfl slt37 (by first | rfl | omega) (by first | omega | (simp; omega) | decide) rfl ?_; clear hE a; intro a p144 hE hc144 hp144
            rw [cls_elem kJ.ok hb119] at hc144
            refine g_yes hE rfl rfl ?_
            refine s_loadAtN hE rfl hc144 (by rw [cl_len (kJ.get hb119)]; exact row26) (by intro X h; cases h; simp) rfl ?_; clear hE a; intro a hE
            refine g_yes hE rfl rfl ?_
            refine s_bin hE rfl rfl (eqCl (kJ.get hb119) (kJ.get hb119)).2 rfl ?_; clear hE a; intro a hE
            refine s_pickf hE rfl rfl rfl ?_; clear hE a; intro a hE
            refine q_nil ?_
            replace hE : Env a 149 [(18, _), (19, _), (20, _), (21, _), (119, _), (147, _)] := hE.sel [18, 19, 20, 21, 119, 147] rfl
            refine hK25 _ _ ?_
            replace hE := hE.cast 147 rfl (show _ = Value.bool false from (congrArg Value.bool (by simp)))
            refine wp_cond_false (hE.eval rfl) ?_
            refine wp_skip ?_
            refine q_block_n ?_
            refine hK24 _ _ ?_
            refine wp_plain [true, true, true] rfl rfl ?_
            refine s_move hE rfl rfl ?_; clear hE a; intro a hE
            refine s_bin hE rfl rfl (bin_add (wrap_i64 (by omega) (by omega))) rfl ?_; clear hE a; intro a hE
            refine s_assign hE rfl rfl ?_; clear hE a; intro a hE
            refine q_nil ?_
            replace hE : Env a 149 [(18, _), (19, _), (20, _), (21, _), (119, _), (147, _)] := hE.sel [18, 19, 20, 21, 119, 147] rfl
            replace hE := hE.cast 21 rfl (show _ = Value.int .i64 ((k + 1 : Nat) : Int) from congrArg _ (by omega))
            exact ⟨k + 1, ⟨by omega, hE.sel [18, 19, 20, 21] rfl, hM⟩, by omega⟩
          · replace hE := hE'; clear hE'
            replace hb126 := of_decide_eq_false hb126
            replace hb126 : ¬ k < (histL c0 (ts.take N)).length := by omega
            refine g_no (b := false) hE rfl rfl rfl ?_; clear hE a; intro a hE
            refine g_no (b := false) hE rfl rfl rfl ?_; clear hE a; intro a hE
            refine g_no (b := false) hE rfl rfl rfl ?_; clear hE a; intro a hE
            refine g_no (b := false) hE rfl rfl rfl ?_; clear hE a; intro a hE
            refine g_no (b := false) hE rfl rfl rfl ?_; clear hE a; intro a hE
            refine g_no (b := false) hE rfl rfl rfl ?_; clear hE a; intro a hE
            refine g_no (b := false) hE rfl rfl rfl ?_; clear hE a; intro a hE
            refine g_no (b := false) hE rfl rfl rfl ?_; clear hE a; intro a hE
            refine g_no (b := false) hE rfl rfl rfl ?_; clear hE a; intro a hE
            refine s_pickf hE rfl rfl rfl ?_; clear hE a; intro a hE
            refine s_move hE rfl rfl ?_; clear hE a; intro a hE
            refine g_yes hE rfl rfl ?_
            refine s_move hE rfl rfl ?_; clear hE a; intro a hE
            refine g_yes hE rfl rfl ?_
            refine s_move hE rfl rfl ?_; clear hE a; intro a hE
            refine g_yes hE rfl rfl ?_
            obtain ⟨cx140, hx140⟩ := own_rd (hM.get 1 rfl)
            refine s_indexRd (j := k) hE rfl hx140 rfl slt37 (by first | rfl | omega) (by first | omega | (simp; omega) | decide) rfl ?_; clear hE a; intro a p140 hE hc140 hp140
            rw [cls_elem kJ.ok hb119] at hc140
            refine g_yes hE rfl rfl ?_
            refine s_loadAtN hE rfl hc140 (by rw [cl_len (kJ.get hb119)]; exact row26) (by intro X h; cases h; simp) rfl ?_; clear hE a; intro a hE
            refine g_yes hE rfl rfl ?_
            refine s_move hE rfl rfl ?_; clear hE a; intro a hE
            refine g_yes hE rfl rfl ?_
            refine s_move hE rfl rfl ?_; clear hE a; intro a hE
            refine g_yes hE rfl rfl ?_
            obtain ⟨cx144, hx144⟩ := own_rd (hM.get 2 rfl)
            refine s_indexRd (j := k) hE rfl hx144 rfl slt37 (by first | rfl | omega) (by first | omega | (simp; omega) | decide) rfl ?_; clear hE a; intro a p144 hE hc144 hp144
            rw [cls_elem kJ.ok hb119] at hc144
            refine g_yes hE rfl rfl ?_
            refine s_loadAtN hE rfl hc144 (by rw [cl_len (kJ.get hb119)]; exact row26) (by intro X h; cases h; simp) rfl ?_; clear hE a; intro a hE
            refine g_yes hE rfl rfl ?_
            refine s_bin hE rfl rfl (eqCl (kJ.get hb119) (kJ.get hb119)).2 rfl ?_; clear hE a; intro a hE
            refine s_pickf hE rfl rfl rfl ?_; clear hE a; intro a hE
            refine q_nil ?_
            replace hE : Env a 149 [(18, _), (19, _), (20, _), (21, _), (119, _), (147, _)] := hE.sel [18, 19, 20, 21, 119, 147] rfl
            refine hK25 _ _ ?_
            replace hE := hE.cast 147 rfl (show _ = Value.bool false from (congrArg Value.bool (by simp)))
            refine wp_cond_false (hE.eval rfl) ?_
            refine wp_skip ?_
            refine q_block_n ?_
            refine hK24 _ _ ?_
            refine wp_plain [true, true, true] rfl rfl ?_
            refine s_move hE rfl rfl ?_; clear hE a; intro a hE
            refine s_bin hE rfl rfl (bin_add (wrap_i64 (by omega) (by omega))) rfl ?_; clear hE a; intro a hE
            refine s_assign hE rfl rfl ?_; clear hE a; intro a hE
            refine q_nil ?_
            replace hE : Env a 149 [(18, _), (19, _), (20, _), (21, _), (119, _), (147, _)] := hE.sel [18, 19, 20, 21, 119, 147] rfl
            replace hE := hE.cast 21 rfl (show _ = Value.int .i64 ((k + 1 : Nat) : Int) from congrArg _ (by omega))
            exact ⟨k + 1, ⟨by omega, hE.sel [18, 19, 20, 21] rfl, hM⟩, by omega⟩
        · replace hE := hE'; clear hE'
          replace hb119 := of_decide_eq_false hb119
          replace hb119 : ¬ k < ((us.take J).foldl advL (histL c0 (ts.take N))).length := by omega
          refine wp_cond_false (hE.eval rfl) ?_
          refine wp_exit ?_
          refine q_then_e ?_
          refine q_then_e ?_
          refine q_block_x ?_
          refine hK20 _ _ ?_
          refine wp_seq_k (fun K24 hK24 => ?_)
          refine wp_plain [false, true] rfl rfl ?_
          refine s_call hE rfl Try.call8 (works12_c _) rfl ?_
          rintro e w11 ⟨rfl, hN⟩
          refine ⟨_, rfl, trivial, ?_⟩; clear hE a; intro a hE
          replace hM : Mem _ _ w11 [_, _, _] := hM.call0 hN trivial; clear hN
          refine s_assign hE rfl rfl ?_; clear hE a; intro a hE
          refine q_nil ?_
          replace hE : Env a 149 [(6, _), (18, _), (19, _), (20, _), (21, _), (119, _)] := hE.sel [6, 18, 19, 20, 21, 119] rfl
          refine hK24 _ _ ?_
          refine wp_ret ?_
          refine f_ret1 hE rfl rfl ?_
          exact ⟨rfl, hM.nil⟩
  · replace hE := hE'; clear hE'
    replace hb42 := of_decide_eq_false hb42
    replace hb42 : ¬ i < ts.length := by omega
    refine g_no (b := false) hE rfl rfl rfl ?_; clear hE a; intro a hE
    refine g_no (b := false) hE rfl rfl rfl ?_; clear hE a; intro a hE
    refine s_pickf hE rfl rfl rfl ?_; clear hE a; intro a hE
    refine q_nil ?_
    replace hE : Env a 149 [(1, _), (2, _), (7, _), (9, _), (11, _), (45, _)] := hE.sel [1, 2, 7, 9, 11, 45] rfl
    refine hK11 _ _ ?_
    refine wp_cond_false (hE.eval rfl) ?_
    refine wp_exit ?_
    refine q_then_e ?_
    refine q_then_e ?_
    refine q_block_x ?_
    refine hK8 _ _ ?_
    refine wp_seq_k (fun K12 hK12 => ?_)
    refine wp_plain [true, false, true] rfl rfl ?_
    generalize i = N at *
    have kN := kc
    refine s_move hE rfl rfl ?_; clear hE a; intro a hE
    replace hM : Mem _ _ w4 [_, _, _, _, _, _] := hM.pick [1, 0, 2, 3, 4, 5] rfl
    obtain ⟨cc, hM⟩ := hM.freeze
    refine s_call hE rfl Try.call13 (ccopy_c pc vc (histL c0 (ts.take N)) _ _ (hM.get 1 rfl) (hM.get 0 rfl) kN.pos) rfl ?_
    rintro e w5 ⟨px, vx, rfl, hrx, hsx, hN⟩
    refine ⟨_, rfl, trivial, ?_⟩; clear hE a; intro a hE
    replace hM : Mem _ _ w5 [_, _, _, _, _, _, _] := hM.call0 hN ⟨rfl, trivial⟩; clear hN
    replace hM := hM.addPart 1 rfl hrx hsx
    refine s_assign hE rfl rfl ?_; clear hE a; intro a hE
    refine q_nil ?_
    replace hE : Env a 149 [(1, _), (2, _), (7, _), (9, _), (11, _), (16, _), (45, _)] := hE.sel [1, 2, 7, 9, 11, 16, 45] rfl
    refine hK12 _ _ ?_
    refine wp_seq_k (fun K13 hK13 => ?_)
    refine wp_seq_k (fun K14 hK14 => ?_)
    refine wp_plain [true] rfl rfl ?_
    refine s_assign hE rfl rfl ?_; clear hE a; intro a hE
    refine q_nil ?_
    refine hK14 _ _ ?_
    refine wp_block ?_
    replace hM : Mem _ _ w5 [_, _, _, _, _, _, _, _] := hM.pick [1, 0, 4, 5, 3, 2, 6, 7] rfl
    skip
    refine c_loop (fun (j : Nat) a w' => j ≤ us.length ∧ j ≤ 30 ∧ ∃ b vx vd, Env a 149 [(1, v1), (2, v2), (7, .pointer (some ⟨pc, 0, none⟩)), (9, .pointer (some ⟨pd, 0, none⟩)), (16, .pointer (some ⟨px, 0, none⟩)), (17, .int .i64 (j : Int))] ∧ Mem w [] w' [blk px [[vx]] [1] 56, hv b vx 33 ((us.take j).foldl advL (histL c0 (ts.take N))).length (cls ((us.take j).foldl advL (histL c0 (ts.take N)))), blk pd [[vd]] [1] 56, own vd 33 ((us.take j).foldl advL (histL c0 (ts.take N))).length (cls ((us.take j).foldl advL (histL c0 (ts.take N)))), blk pc [[vc]] [1] 56, rd vc 33 (histL c0 (ts.take N)).length cc (cls (histL c0 (ts.take N))), rd v1 32 ts.length c1 (ts.flatMap bv), rd v2 32 us.length c2 (us.flatMap bv)]) (fun j => 30 - j) 0 ⟨Nat.zero_le _, Nat.zero_le _, false, _, _, hE.sel [1, 2, 7, 9, 16, 17] rfl, hM⟩ ?_
    clear hE hM a; rintro j a w6 ⟨hj, hj2, b, vx, vd, hE, hM⟩
    obtain ⟨k2, kl3, _, _⟩ := kN.fold j us hus
    have kl4 := (advL_len ((us.take j).foldl advL (histL c0 (ts.take N))) (us.getD j [])).1
    refine wp_seq_k (fun K15 hK15 => ?_)
    refine wp_seq_k (fun K16 hK16 => ?_)
    refine wp_plain [true, true, true, true, true, true, true, true] rfl rfl ?_
    refine s_move hE rfl rfl ?_; clear hE a; intro a hE
    refine s_move hE rfl rfl ?_; clear hE a; intro a hE
    refine s_len hE rfl Try.underlying27 (rd_slice (hM.get 7 rfl)) rfl ?_; clear hE a; intro a hE
    refine s_bin hE rfl rfl bin_lss rfl ?_; clear hE a; intro a hE
    refine s_move hE rfl rfl ?_; clear hE a; intro a hE
    refine hE.split 80 rfl (fun hb80 hE' => ?_) (fun hb80 hE' => ?_)
    · replace hE := hE'; clear hE'
      replace hb80 := of_decide_eq_true hb80
      replace hb80 : j < us.length := by omega
      refine g_yes hE rfl rfl ?_
      refine s_move hE rfl rfl ?_; clear hE a; intro a hE
      refine g_yes hE rfl rfl ?_
      refine s_bin hE rfl rfl bin_lss rfl ?_; clear hE a; intro a hE
      refine s_pickt hE rfl rfl rfl ?_; clear hE a; intro a hE
      refine q_nil ?_
      replace hE : Env a 149 [(1, _), (2, _), (7, _), (9, _), (16, _), (17, _), (83, _)] := hE.sel [1, 2, 7, 9, 16, 17, 83] rfl
      refine hK16 _ _ ?_
      refine hE.split 83 rfl (fun hb83 hE' => ?_) (fun hb83 hE' => ?_)
      · replace hE := hE'; clear hE'
        replace hb83 := of_decide_eq_true hb83
        have hlab2 := ts_get hus hb80
        refine wp_cond_true (hE.eval rfl) ?_
        refine wp_skip ?_
        refine hK15 _ _ ?_
        refine wp_seq_k (fun K17 hK17 => ?_)
        refine wp_block ?_
        refine wp_seq_k (fun K18 hK18 => ?_)
        refine wp_plain [true, true, true, true, true, false] rfl rfl ?_
        refine s_move hE rfl rfl ?_; clear hE a; intro a hE
        refine s_move hE rfl rfl ?_; clear hE a; intro a hE
        refine s_move hE rfl rfl ?_; clear hE a; intro a hE
        refine s_indexRd (j := j) hE rfl (hM.get 7 rfl) rfl slt27 (by first | rfl | omega) (by first | omega | (simp; omega) | decide) rfl ?_; clear hE a; intro a p89 hE hc89 hp89
        rw [flat_elem (d := []) hul hb80] at hc89
        refine s_loadAtN hE rfl hc89 (by rw [bv_length, hlab2]; exact row24) (by intro X h; cases h) rfl ?_; clear hE a; intro a hE
        have hap := apart_of_get hM.apart (i := 0) (j := 1) rfl rfl (by decide)
        refine s_call hE rfl Try.call9 (cadv_c b px vx (((us.take j).foldl advL (histL c0 (ts.take N)))) (us.getD j []) _ (hM.get 0 rfl) (hM.get 1 rfl) (hap.1 _ (.head _)) k2.ok k2.pos (by first | omega | decide) hlab2 k2.top) rfl ?_; clear hap
        rintro e w7 ⟨vx91, rfl, hro, hN⟩
        refine ⟨_, rfl, trivial, ?_⟩; clear hE a; intro a hE
        replace hM : Mem _ _ w7 [_, _, _, _, _, _, _, _] := hM.call2R hN rfl hro; clear hN hro
        have kx91 := k2.adv (lab := (us.getD j [])) hlab2
        refine q_nil ?_
        replace hE : Env a 149 [(1, _), (2, _), (7, _), (9, _), (16, _), (17, _), (83, _)] := hE.sel [1, 2, 7, 9, 16, 17, 83] rfl
        refine hK18 _ _ ?_
        refine wp_plain [true, true, true, true, true, false] rfl rfl ?_
        refine s_move hE rfl rfl ?_; clear hE a; intro a hE
        refine s_move hE rfl rfl ?_; clear hE a; intro a hE
        refine s_move hE rfl rfl ?_; clear hE a; intro a hE
        refine s_indexRd (j := j) hE rfl (hM.get 7 rfl) rfl slt27 (by first | rfl | omega) (by first | omega | (simp; omega) | decide) rfl ?_; clear hE a; intro a p95 hE hc95 hp95
        rw [flat_elem (d := []) hul hb80] at hc95
        refine s_loadAtN hE rfl hc95 (by rw [bv_length, hlab2]; exact row24) (by intro X h; cases h) rfl ?_; clear hE a; intro a hE
        replace hM : Mem _ _ w7 [_, _, _, _, _, _, _, _] := hM.pick [2, 3, 0, 1, 4, 5, 6, 7] rfl
        have hap := apart_of_get hM.apart (i := 0) (j := 1) rfl rfl (by decide)
        refine s_call hE rfl Try.call9 (cadvO_c pd vd (((us.take j).foldl advL (histL c0 (ts.take N)))) (us.getD j []) _ (hM.get 0 rfl) (hM.get 1 rfl) (hap.1 _ (.head _)).1 k2.ok k2.pos (by first | omega | decide) hlab2 k2.top) rfl ?_; clear hap
        rintro e w8 ⟨vd97, rfl, hN⟩
        refine ⟨_, rfl, trivial, ?_⟩; clear hE a; intro a hE
        replace hM : Mem _ _ w8 [_, _, _, _, _, _, _, _] := hM.call2 hN ⟨rfl, rfl, trivial⟩; clear hN
        have kd97 := k2.adv (lab := (us.getD j [])) hlab2
        refine q_nil ?_
        replace hE : Env a 149 [(1, _), (2, _), (7, _), (9, _), (16, _), (17, _), (83, _)] := hE.sel [1, 2, 7, 9, 16, 17, 83] rfl
        refine q_block_n ?_
        refine hK17 _ _ ?_
        refine wp_plain [true, true, true] rfl rfl ?_
        refine s_move hE rfl rfl ?_; clear hE a; intro a hE
        refine s_bin hE rfl rfl (bin_add (wrap_i64 (by omega) (by omega))) rfl ?_; clear hE a; intro a hE
        refine s_assign hE rfl rfl ?_; clear hE a; intro a hE
        refine q_nil ?_
        replace hE : Env a 149 [(1, _), (2, _), (7, _), (9, _), (16, _), (17, _), (83, _)] := hE.sel [1, 2, 7, 9, 16, 17, 83] rfl
        replace hE := hE.cast 17 rfl (show _ = Value.int .i64 ((j + 1 : Nat) : Int) from congrArg _ (by omega))
        replace hM : Mem _ _ w8 [_, _, _, _, _, _, _, _] := hM.pick [2, 3, 0, 1, 4, 5, 6, 7] rfl
        rw [fold_succ hb80] at hM
        exact ⟨j + 1, ⟨by omega, by omega, _, _, _, hE.sel [1, 2, 7, 9, 16, 17] rfl, hM⟩, by omega⟩
      · replace hE := hE'; clear hE'
        replace hb83 := of_decide_eq_false hb83
        refine wp_cond_false (hE.eval rfl) ?_
        refine wp_exit ?_
        refine q_then_e ?_
        refine q_then_e ?_
        refine q_block_x ?_
        refine hK13 _ _ ?_
        refine wp_seq_k (fun K17 hK17 => ?_)
        refine wp_plain [true, false, true, false, true, false, true, true, true] rfl rfl ?_
        generalize j = J at *
        have kJ := k2
        obtain ⟨_, _, lJ, gJ⟩ := kN.fold J us hus
        refine s_move hE rfl rfl ?_; clear hE a; intro a hE
        refine s_call hE rfl Try.call11 (chist_c pc vc (histL c0 (ts.take N)) _ _ (hM.get 4 rfl) (hM.get 5 rfl) kN.pos (by omega)) rfl ?_
        rintro e w7 ⟨vo1, rfl, hN⟩
        refine ⟨_, rfl, trivial, ?_⟩; clear hE a; intro a hE
        replace hM : Mem _ _ w7 [_, _, _, _, _, _, _, _, _] := hM.call0 hN ⟨rfl, trivial⟩; clear hN
        refine s_move hE rfl rfl ?_; clear hE a; intro a hE
        obtain ⟨cr101, hr101⟩ := hv_rd (hM.get 2 rfl)
        refine s_call hE rfl Try.call11 (chist_c px vx (((us.take J).foldl advL (histL c0 (ts.take N)))) _ _ (hM.get 1 rfl) hr101 kJ.pos (by omega)) rfl ?_
        rintro e w8 ⟨vo2, rfl, hN⟩
        refine ⟨_, rfl, trivial, ?_⟩; clear hE a; intro a hE
        replace hM : Mem _ _ w8 [_, _, _, _, _, _, _, _, _, _] := hM.call0 hN ⟨rfl, trivial⟩; clear hN
        refine s_move hE rfl rfl ?_; clear hE a; intro a hE
        obtain ⟨cr103, hr103⟩ := own_rd (hM.get 5 rfl)
        refine s_call hE rfl Try.call11 (chist_c pd vd (((us.take J).foldl advL (histL c0 (ts.take N)))) _ _ (hM.get 4 rfl) hr103 kJ.pos (by omega)) rfl ?_
        rintro e w9 ⟨vo3, rfl, hN⟩
        refine ⟨_, rfl, trivial, ?_⟩; clear hE a; intro a hE
        replace hM : Mem _ _ w9 [_, _, _, _, _, _, _, _, _, _, _] := hM.call0 hN ⟨rfl, trivial⟩; clear hN
        refine s_assign hE rfl rfl ?_; clear hE a; intro a hE
        refine s_assign hE rfl rfl ?_; clear hE a; intro a hE
        refine s_assign hE rfl rfl ?_; clear hE a; intro a hE
        refine q_nil ?_
        replace hE : Env a 149 [(1, _), (2, _), (7, _), (9, _), (16, _), (17, _), (18, _), (19, _), (20, _), (83, _)] := hE.sel [1, 2, 7, 9, 16, 17, 18, 19, 20, 83] rfl
        refine hK17 _ _ ?_
        refine wp_seq_k (fun K18 hK18 => ?_)
        refine wp_seq_k (fun K19 hK19 => ?_)
        refine wp_plain [true, true, true, true, true, true, true, true, true, true, true, true] rfl rfl ?_
        refine s_move hE rfl rfl ?_; clear hE a; intro a hE
        refine s_len hE rfl Try.underlying37 (own_slice (hM.get 2 rfl)) rfl ?_; clear hE a; intro a hE
        refine s_move hE rfl rfl ?_; clear hE a; intro a hE
        refine s_len hE rfl Try.underlying37 (own_slice (hM.get 1 rfl)) rfl ?_; clear hE a; intro a hE
        refine s_bin hE rfl rfl bin_gtr rfl ?_; clear hE a; intro a hE
        refine s_move hE rfl rfl ?_; clear hE a; intro a hE
        replace hE := hE.cast 109 rfl (show _ = Value.bool false from (congrArg Value.bool (decide_eq_false (by omega))))
        refine g_yes hE rfl rfl ?_
        refine s_move hE rfl rfl ?_; clear hE a; intro a hE
        refine g_yes hE rfl rfl ?_
        refine s_len hE rfl Try.underlying37 (own_slice (hM.get 1 rfl)) rfl ?_; clear hE a; intro a hE
        refine g_yes hE rfl rfl ?_
        refine s_move hE rfl rfl ?_; clear hE a; intro a hE
        refine g_yes hE rfl rfl ?_
        refine s_len hE rfl Try.underlying37 (own_slice (hM.get 0 rfl)) rfl ?_; clear hE a; intro a hE
        refine g_yes hE rfl rfl ?_
        refine s_bin hE rfl rfl bin_neq rfl ?_; clear hE a; intro a hE
        refine s_pickf hE rfl rfl rfl ?_; clear hE a; intro a hE
        refine q_nil ?_
        replace hE : Env a 149 [(1, _), (2, _), (7, _), (9, _), (16, _), (17, _), (18, _), (19, _), (20, _), (83, _), (115, _)] := hE.sel [1, 2, 7, 9, 16, 17, 18, 19, 20, 83, 115] rfl
        refine hK19 _ _ ?_
        replace hE := hE.cast 115 rfl (show _ = Value.bool false from (congrArg Value.bool (by simp)))
        refine wp_cond_false (hE.eval rfl) ?_
        refine wp_skip ?_
        refine hK18 _ _ ?_
        refine wp_seq_k (fun K20 hK20 => ?_)
        refine wp_seq_k (fun K21 hK21 => ?_)
        refine wp_plain [true] rfl rfl ?_
        refine s_assign hE rfl rfl ?_; clear hE a; intro a hE
        refine q_nil ?_
        refine hK21 _ _ ?_
        refine wp_block ?_
        replace hM : Mem _ _ w9 [_, _, _, _, _, _, _, _, _, _, _] := hM.pick [2, 1, 0, 3, 4, 5, 6, 7, 8, 9, 10] rfl
        replace hM : Mem _ _ w9 [_, _, _] := hM.pick [0, 1, 2] rfl
        refine c_loop (fun (k : Nat) a w' => k ≤ ((us.take J).foldl advL (histL c0 (ts.take N))).length ∧ Env a 149 [(18, vo1), (19, vo2), (20, vo3), (21, .int .i64 (k : Int))] ∧ Mem w [] w' [own vo1 33 (histL c0 (ts.take N)).length (cls (histL c0 (ts.take N))), own vo2 33 ((us.take J).foldl advL (histL c0 (ts.take N))).length (cls ((us.take J).foldl advL (histL c0 (ts.take N)))), own vo3 33 ((us.take J).foldl advL (histL c0 (ts.take N))).length (cls ((us.take J).foldl advL (histL c0 (ts.take N))))]) (fun k => ((us.take J).foldl advL (histL c0 (ts.take N))).length - k) 0 ⟨Nat.zero_le _, hE.sel [18, 19, 20, 21] rfl, hM⟩ ?_
        clear hE hM a; rintro k a w10 ⟨hk, hE, hM⟩
        refine wp_seq_k (fun K22 hK22 => ?_)
        refine wp_seq_k (fun K23 hK23 => ?_)
        refine wp_plain [true, true, true, true] rfl rfl ?_
        refine s_move hE rfl rfl ?_; clear hE a; intro a hE
        refine s_move hE rfl rfl ?_; clear hE a; intro a hE
        refine s_len hE rfl Try.underlying37 (own_slice (hM.get 1 rfl)) rfl ?_; clear hE a; intro a hE
        refine s_bin hE rfl rfl bin_lss rfl ?_; clear hE a; intro a hE
        refine q_nil ?_
        replace hE : Env a 149 [(18, _), (19, _), (20, _), (21, _), (119, _)] := hE.sel [18, 19, 20, 21, 119] rfl
        refine hK23 _ _ ?_
        refine hE.split 119 rfl (fun hb119 hE' => ?_) (fun hb119 hE' => ?_)
        · replace hE := hE'; clear hE'
          replace hb119 := of_decide_eq_true hb119
          replace hb119 : k < ((us.take J).foldl advL (histL c0 (ts.take N))).length := by omega
          refine wp_cond_true (hE.eval rfl) ?_
          refine wp_skip ?_
          refine hK22 _ _ ?_
          refine wp_seq_k (fun K24 hK24 => ?_)
          refine wp_block ?_
          refine wp_seq_k (fun K25 hK25 => ?_)
          refine wp_drawnM hM (by kernel_rfl) (fun _ => False) [(0, true), (1, true), (2, true), (3, true), (4, true), (5, true), (6, true), (7, true), (8, true), (9, true), (10, true), (11, true), (12, true), (13, true), (14, true), (15, true), (16, true), (17, true), (18, true), (19, true), (20, true), (21, true), (22, true), (23, true), (24, true), (25, true)] [] (by kernel_rfl) rfl ?_
          intro w11 hM' hww11; clear hM; have hM := hM'; clear hM'
          refine s_move hE rfl rfl ?_; clear hE a; intro a hE
          refine s_move hE rfl rfl ?_; clear hE a; intro a hE
          refine s_len hE rfl Try.underlying37 (own_slice (hM.get 0 rfl)) rfl ?_; clear hE a; intro a hE
          refine s_bin hE rfl rfl bin_lss rfl ?_; clear hE a; intro a hE
          refine s_move hE rfl rfl ?_; clear hE a; intro a hE
          refine hE.split 126 rfl (fun hb126 hE' => ?_) (fun hb126 hE' => ?_)
          · replace hE := hE'; clear hE'
            replace hb126 := of_decide_eq_true hb126
            replace hb126 : k < (histL c0 (ts.take N)).length := by omega
            refine g_yes hE rfl rfl ?_
            refine s_move hE rfl rfl ?_; clear hE a; intro a hE
            refine g_yes hE rfl rfl ?_
            refine s_move hE rfl rfl ?_; clear hE a; intro a hE
            refine g_yes hE rfl rfl ?_
            obtain ⟨cx129, hx129⟩ := own_rd (hM.get 0 rfl)
            refine s_indexRd (j := k) hE rfl hx129 rfl slt37 (by first | rfl | omega) (by first | omega | (simp; omega) | decide) rfl ?_; clear hE a; intro a p129 hE hc129 hp129
            rw [cls_elem kN.ok hb126] at hc129
            refine g_yes hE rfl rfl ?_
            refine s_loadAtN hE rfl hc129 (by rw [cl_len (kN.get hb126)]; exact row26) (by intro X h; cases h; simp) rfl ?_; clear hE a; intro a hE
            refine g_yes hE rfl rfl ?_
            refine s_move hE rfl rfl ?_; clear hE a; intro a hE
            refine g_yes hE rfl rfl ?_
            refine s_move hE rfl rfl ?_; clear hE a; intro a hE
            refine g_yes hE rfl rfl ?_
            obtain ⟨cx133, hx133⟩ := own_rd (hM.get 1 rfl)
            refine s_indexRd (j := k) hE rfl hx133 rfl slt37 (by first | rfl | omega) (by first | omega | (simp; omega) | decide) rfl ?_; clear hE a; intro a p133 hE hc133 hp133
            rw [cls_elem kJ.ok hb119] at hc133
            refine g_yes hE rfl rfl ?_
            refine s_loadAtN hE rfl hc133 (by rw [cl_len (kJ.get hb119)]; exact row26) (by intro X h; cases h; simp) rfl ?_; clear hE a; intro a hE
            refine g_yes hE rfl rfl ?_
            refine s_bin hE rfl rfl (eqCl (kN.get hb126) (kJ.get hb119)).2 rfl ?_; clear hE a; intro a hE
            refine s_pickt hE rfl rfl rfl ?_; clear hE a; intro a hE
            refine s_move hE rfl rfl ?_; clear hE a; intro a hE
            replace hE := hE.cast 137 rfl (show _ = Value.bool false from (congrArg Value.bool (by rw [gJ k hb126]; simp)))
            refine g_yes hE rfl rfl ?_
            refine s_move hE rfl rfl ?_; clear hE a; intro a hE
            refine g_yes hE rfl rfl ?_
            refine s_move hE rfl rfl ?_; clear hE a; intro a hE
            refine g_yes hE rfl rfl ?_
            obtain ⟨cx140, hx140⟩ := own_rd (hM.get 1 rfl)
            refine s_indexRd (j := k) hE rfl hx140 rfl slt37 (by first | rfl | omega) (by first | omega | (simp; omega) | decide) rfl ?_; clear hE a; intro a p140 hE hc140 hp140
            rw [cls_elem kJ.ok hb119] at hc140
            refine g_yes hE rfl rfl ?_
            refine s_loadAtN hE rfl hc140 (by rw [cl_len (kJ.get hb119)]; exact row26) (by intro X h; cases h; simp) rfl ?_; clear hE a; intro a hE
            refine g_yes hE rfl rfl ?_
            refine s_move hE rfl rfl ?_; clear hE a; intro a hE
            refine g_yes hE rfl rfl ?_
            refine s_move hE rfl rfl ?_; clear hE a; intro a hE
            refine g_yes hE rfl rfl ?_
            obtain ⟨cx144, hx144⟩ := own_rd (hM.get 2 rfl)
            refine s_indexRd (j := k) hE rfl hx144 rfl slt37 (by first | rfl | omega) (by first | omega | (simp; omega) | decide) rfl ?_; clear hE a; intro a p144 hE hc144 hp144
            rw [cls_elem kJ.ok hb119] at hc144
            refine g_yes hE rfl rfl ?_
            refine s_loadAtN hE rfl hc144 (by rw [cl_len (kJ.get hb119)]; exact row26) (by intro X h; cases h; simp) rfl ?_; clear hE a; intro a hE
            refine g_yes hE rfl rfl ?_
            refine s_bin hE rfl rfl (eqCl (kJ.get hb119) (kJ.get hb119)).2 rfl ?_; clear hE a; intro a hE
            refine s_pickf hE rfl rfl rfl ?_; clear hE a; intro a hE
            refine q_nil ?_
            replace hE : Env a 149 [(18, _), (19, _), (20, _), (21, _), (119, _), (147, _)] := hE.sel [18, 19, 20, 21, 119, 147] rfl
            refine hK25 _ _ ?_
            replace hE := hE.cast 147 rfl (show _ = Value.bool false from (congrArg Value.bool (by simp)))
            refine wp_cond_false (hE.eval rfl) ?_
            refine wp_skip ?_
            refine q_block_n ?_
            refine hK24 _ _ ?_
            refine wp_plain [true, true, true] rfl rfl ?_
            refine s_move hE rfl rfl ?_; clear hE a; intro a hE
            refine s_bin hE rfl rfl (bin_add (wrap_i64 (by omega) (by omega))) rfl ?_; clear hE a; intro a hE
            refine s_assign hE rfl rfl ?_; clear hE a; intro a hE
            refine q_nil ?_
            replace hE : Env a 149 [(18, _), (19, _), (20, _), (21, _), (119, _), (147, _)] := hE.sel [18, 19, 20, 21, 119, 147] rfl
            replace hE := hE.cast 21 rfl (show _ = Value.int .i64 ((k + 1 : Nat) : Int) from congrArg _ (by omega))
            exact ⟨k + 1, ⟨by omega, hE.sel [18, 19, 20, 21] rfl, hM⟩, by omega⟩
          · replace hE := hE'; clear hE'
            replace hb126 := of_decide_eq_false hb126
            replace hb126 : ¬ k < (histL c0 (ts.take N)).length := by omega
            refine g_no (b := false) hE rfl rfl rfl ?_; clear hE a; intro a hE
            refine g_no (b := false) hE rfl rfl rfl ?_; clear hE a; intro a hE
            refine g_no (b := false) hE rfl rfl rfl ?_; clear hE a; intro a hE
            refine g_no (b := false) hE rfl rfl rfl ?_; clear hE a; intro a hE
            refine g_no (b := false) hE rfl rfl rfl ?_; clear hE a; intro a hE
            refine g_no (b := false) hE rfl rfl rfl ?_; clear hE a; intro a hE
            refine g_no (b := false) hE rfl rfl rfl ?_; clear hE a; intro a hE
            refine g_no (b := false) hE rfl rfl rfl ?_; clear hE a; intro a hE
            refine g_no (b := false) hE rfl rfl rfl ?_; clear hE a; intro a hE
            refine s_pickf hE rfl rfl rfl ?_; clear hE a; intro a hE
            refine s_move hE rfl rfl ?_; clear hE a; intro a hE
            refine g_yes hE rfl rfl ?_
            refine s_move hE rfl rfl ?_; clear hE a; intro a hE
            refine g_yes hE rfl rfl ?_
            refine s_move hE rfl rfl ?_; clear hE a; intro a hE
            refine g_yes hE rfl rfl ?_
            obtain ⟨cx140, hx140⟩ := own_rd (hM.get 1 rfl)
            refine s_indexRd (j := k) hE rfl hx140 rfl slt37 (by first | rfl | omega) (by first | omega | (simp; omega) | decide) rfl ?_; clear hE a; intro a p140 hE hc140 hp140
            rw [cls_elem kJ.ok hb119] at hc140
            refine g_yes hE rfl rfl ?_
            refine s_loadAtN hE rfl hc140 (by rw [cl_len (kJ.get hb119)]; exact row26) (by intro X h; cases h; simp) rfl ?_; clear hE a; intro a hE
            refine g_yes hE rfl rfl ?_
            refine s_move hE rfl rfl ?_; clear hE a; intro a hE
            refine g_yes hE rfl rfl ?_
            refine s_move hE rfl rfl ?_; clear hE a; intro a hE
            refine g_yes hE rfl rfl ?_
            obtain ⟨cx144, hx144⟩ := own_rd (hM.get 2 rfl)
            refine s_indexRd (j := k) hE rfl hx144 rfl slt37 (by first | rfl | omega) (by first | omega | (simp; omega) | decide) rfl ?_; clear hE a; intro a p144 hE hc144 hp144
            rw [cls_elem kJ.ok hb119] at hc144
            refine g_yes hE rfl rfl ?_
            refine s_loadAtN hE rfl hc144 (by rw [cl_len (kJ.get hb119)]; exact row26) (by intro X h; cases h; simp) rfl ?_; clear hE a; intro a hE
            refine g_yes hE rfl rfl ?_
            refine s_bin hE rfl rfl (eqCl (kJ.get hb119) (kJ.get hb119)).2 rfl ?_; clear hE a; intro a hE
            refine s_pickf hE rfl rfl rfl ?_; clear hE a; intro a hE
            refine q_nil ?_
            replace hE : Env a 149 [(18, _), (19, _), (20, _), (21, _), (119, _), (147, _)] := hE.sel [18, 19, 20, 21, 119, 147] rfl
            refine hK25 _ _ ?_
            replace hE := hE.cast 147 rfl (show _ = Value.bool false from (congrArg Value.bool (by simp)))
            refine wp_cond_false (hE.eval rfl) ?_
            refine wp_skip ?_
            refine q_block_n ?_
            refine hK24 _ _ ?_
            refine wp_plain [true, true, true] rfl rfl ?_
            refine s_move hE rfl rfl ?_; clear hE a; intro a hE
            refine s_bin hE rfl rfl (bin_add (wrap_i64 (by omega) (by omega))) rfl ?_; clear hE a; intro a hE
            refine s_assign hE rfl rfl ?_; clear hE a; intro a hE
            refine q_nil ?_
            replace hE : Env a 149 [(18, _), (19, _), (20, _), (21, _), (119, _), (147, _)] := hE.sel [18, 19, 20, 21, 119, 147] rfl
            replace hE := hE.cast 21 rfl (show _ = Value.int .i64 ((k + 1 : Nat) : Int) from congrArg _ (by omega))
            exact ⟨k + 1, ⟨by omega, hE.sel [18, 19, 20, 21] rfl, hM⟩, by omega⟩
        · replace hE := hE'; clear hE'
          replace hb119 := of_decide_eq_false hb119
          replace hb119 : ¬ k < ((us.take J).foldl advL (histL c0 (ts.take N))).length := by omega
          refine wp_cond_false (hE.eval rfl) ?_
          refine wp_exit ?_
          refine q_then_e ?_
          refine q_then_e ?_
          refine q_block_x ?_
          refine hK20 _ _ ?_
          refine wp_seq_k (fun K24 hK24 => ?_)
          refine wp_plain [false, true] rfl rfl ?_
          refine s_call hE rfl Try.call8 (works12_c _) rfl ?_
          rintro e w11 ⟨rfl, hN⟩
          refine ⟨_, rfl, trivial, ?_⟩; clear hE a; intro a hE
          replace hM : Mem _ _ w11 [_, _, _] := hM.call0 hN trivial; clear hN
          refine s_assign hE rfl rfl ?_; clear hE a; intro a hE
          refine q_nil ?_
          replace hE : Env a 149 [(6, _), (18, _), (19, _), (20, _), (21, _), (119, _)] := hE.sel [6, 18, 19, 20, 21, 119] rfl
          refine hK24 _ _ ?_
          refine wp_ret ?_
          refine f_ret1 hE rfl rfl ?_
          exact ⟨rfl, hM.nil⟩
    · replace hE := hE'; clear hE'
      replace hb80 := of_decide_eq_false hb80
      replace hb80 : ¬ j < us.length := by omega
      refine g_no (b := false) hE rfl rfl rfl ?_; clear hE a; intro a hE
      refine g_no (b := false) hE rfl rfl rfl ?_; clear hE a; intro a hE
      refine s_pickf hE rfl rfl rfl ?_; clear hE a; intro a hE
      refine q_nil ?_
      replace hE : Env a 149 [(1, _), (2, _), (7, _), (9, _), (16, _), (17, _), (83, _)] := hE.sel [1, 2, 7, 9, 16, 17, 83] rfl
      refine hK16 _ _ ?_
      refine wp_cond_false (hE.eval rfl) ?_
      refine wp_exit ?_
      refine q_then_e ?_
      refine q_then_e ?_
      refine q_block_x ?_
      refine hK13 _ _ ?_
      refine wp_seq_k (fun K17 hK17 => ?_)
      refine wp_plain [true, false, true, false, true, false, true, true, true] rfl rfl ?_
      generalize j = J at *
      have kJ := k2
      obtain ⟨_, _, lJ, gJ⟩ := kN.fold J us hus
      refine s_move hE rfl rfl ?_; clear hE a; intro a hE
      refine s_call hE rfl Try.call11 (chist_c pc vc (histL c0 (ts.take N)) _ _ (hM.get 4 rfl) (hM.get 5 rfl) kN.pos (by omega)) rfl ?_
      rintro e w7 ⟨vo1, rfl, hN⟩
      refine ⟨_, rfl, trivial, ?_⟩; clear hE a; intro a hE
      replace hM : Mem _ _ w7 [_, _, _, _, _, _, _, _, _] := hM.call0 hN ⟨rfl, trivial⟩; clear hN
      refine s_move hE rfl rfl ?_; clear hE a; intro a hE
      obtain ⟨cr101, hr101⟩ := hv_rd (hM.get 2 rfl)
      refine s_call hE rfl Try.call11 (chist_c px vx (((us.take J).foldl advL (histL c0 (ts.take N)))) _ _ (hM.get 1 rfl) hr101 kJ.pos (by omega)) rfl ?_
      rintro e w8 ⟨vo2, rfl, hN⟩
      refine ⟨_, rfl, trivial, ?_⟩; clear hE a; intro a hE
      replace hM : Mem _ _ w8 [_, _, _, _, _, _, _, _, _, _] := hM.call0 hN ⟨rfl, trivial⟩; clear hN
      refine s_move hE rfl rfl ?_; clear hE a; intro a hE
      obtain ⟨cr103, hr103⟩ := own_rd (hM.get 5 rfl)
      refine s_call hE rfl Try.call11 (chist_c pd vd (((us.take J).foldl advL (histL c0 (ts.take N)))) _ _ (hM.get 4 rfl) hr103 kJ.pos (by omega)) rfl ?_
      rintro e w9 ⟨vo3, rfl, hN⟩
      refine ⟨_, rfl, trivial, ?_⟩; clear hE a; intro a hE
      replace hM : Mem _ _ w9 [_, _, _, _, _, _, _, _, _, _, _] := hM.call0 hN ⟨rfl, trivial⟩; clear hN
      refine s_assign hE rfl rfl ?_; clear hE a; intro a hE
      refine s_assign hE rfl rfl ?_; clear hE a; intro a hE
      refine s_assign hE rfl rfl ?_; clear hE a; intro a hE
      refine q_nil ?_
      replace hE : Env a 149 [(1, _), (2, _), (7, _), (9, _), (16, _), (17, _), (18, _), (19, _), (20, _), (83, _)] := hE.sel [1, 2, 7, 9, 16, 17, 18, 19, 20, 83] rfl
      refine hK17 _ _ ?_
      refine wp_seq_k (fun K18 hK18 => ?_)
      refine wp_seq_k (fun K19 hK19 => ?_)
      refine wp_plain [true, true, true, true, true, true, true, true, true, true, true, true] rfl rfl ?_
      refine s_move hE rfl rfl ?_; clear hE a; intro a hE
      refine s_len hE rfl Try.underlying37 (own_slice (hM.get 2 rfl)) rfl ?_; clear hE a; intro a hE
      refine s_move hE rfl rfl ?_; clear hE a; intro a hE
      refine s_len hE rfl Try.underlying37 (own_slice (hM.get 1 rfl)) rfl ?_; clear hE a; intro a hE
      refine s_bin hE rfl rfl bin_gtr rfl ?_; clear hE a; intro a hE
      refine s_move hE rfl rfl ?_; clear hE a; intro a hE
      replace hE := hE.cast 109 rfl (show _ = Value.bool false from (congrArg Value.bool (decide_eq_false (by omega))))
      refine g_yes hE rfl rfl ?_
      refine s_move hE rfl rfl ?_; clear hE a; intro a hE
      refine g_yes hE rfl rfl ?_
      refine s_len hE rfl Try.underlying37 (own_slice (hM.get 1 rfl)) rfl ?_; clear hE a; intro a hE
      refine g_yes hE rfl rfl ?_
      refine s_move hE rfl rfl ?_; clear hE a; intro a hE
      refine g_yes hE rfl rfl ?_
      refine s_len hE rfl Try.underlying37 (own_slice (hM.get 0 rfl)) rfl ?_; clear hE a; intro a hE
      refine g_yes hE rfl rfl ?_
      refine s_bin hE rfl rfl bin_neq rfl ?_; clear hE a; intro a hE
      refine s_pickf hE rfl rfl rfl ?_; clear hE a; intro a hE
      refine q_nil ?_
      replace hE : Env a 149 [(1, _), (2, _), (7, _), (9, _), (16, _), (17, _), (18, _), (19, _), (20, _), (83, _), (115, _)] := hE.sel [1, 2, 7, 9, 16, 17, 18, 19, 20, 83, 115] rfl
      refine hK19 _ _ ?_
      replace hE := hE.cast 115 rfl (show _ = Value.bool false from (congrArg Value.bool (by simp)))
      refine wp_cond_false (hE.eval rfl) ?_
      refine wp_skip ?_
      refine hK18 _ _ ?_
      refine wp_seq_k (fun K20 hK20 => ?_)
      refine wp_seq_k (fun K21 hK21 => ?_)
      refine wp_plain [true] rfl rfl ?_
      refine s_assign hE rfl rfl ?_; clear hE a; intro a hE
      refine q_nil ?_
      refine hK21 _ _ ?_
      refine wp_block ?_
      replace hM : Mem _ _ w9 [_, _, _, _, _, _, _, _, _, _, _] := hM.pick [2, 1, 0, 3, 4, 5, 6, 7, 8, 9, 10] rfl
      replace hM : Mem _ _ w9 [_, _, _] := hM.pick [0, 1, 2] rfl
      refine c_loop (fun (k : Nat) a w' => k ≤ ((us.take J).foldl advL (histL c0 (ts.take N))).length ∧ Env a 149 [(18, vo1), (19, vo2), (20, vo3), (21, .int .i64 (k : Int))] ∧ Mem w [] w' [own vo1 33 (histL c0 (ts.take N)).length (cls (histL c0 (ts.take N))), own vo2 33 ((us.take J).foldl advL (histL c0 (ts.take N))).length (cls ((us.take J).foldl advL (histL c0 (ts.take N)))), own vo3 33 ((us.take J).foldl advL (histL c0 (ts.take N))).length (cls ((us.take J).foldl advL (histL c0 (ts.take N))))]) (fun k => ((us.take J).foldl advL (histL c0 (ts.take N))).length - k) 0 ⟨Nat.zero_le _, hE.sel [18, 19, 20, 21] rfl, hM⟩ ?_
      clear hE hM a; rintro k a w10 ⟨hk, hE, hM⟩
      refine wp_seq_k (fun K22 hK22 => ?_)
      refine wp_seq_k (fun K23 hK23 => ?_)
      refine wp_plain [true, true, true, true] rfl rfl ?_
      refine s_move hE rfl rfl ?_; clear hE a; intro a hE
      refine s_move hE rfl rfl ?_; clear hE a; intro a hE
      refine s_len hE rfl Try.underlying37 (own_slice (hM.get 1 rfl)) rfl ?_; clear hE a; intro a hE
      refine s_bin hE rfl rfl bin_lss rfl ?_; clear hE a; intro a hE
      refine q_nil ?_
      replace hE : Env a 149 [(18, _), (19, _), (20, _), (21, _), (119, _)] := hE.sel [18, 19, 20, 21, 119] rfl
      refine hK23 _ _ ?_
      refine hE.split 119 rfl (fun hb119 hE' => ?_) (fun hb119 hE' => ?_)
      · replace hE := hE'; clear hE'
        replace hb119 := of_decide_eq_true hb119
        replace hb119 : k < ((us.take J).foldl advL (histL c0 (ts.take N))).length := by omega
        refine wp_cond_true (hE.eval rfl) ?_
        refine wp_skip ?_
        refine hK22 _ _ ?_
        refine wp_seq_k (fun K24 hK24 => ?_)
        refine wp_block ?_
        refine wp_seq_k (fun K25 hK25 => ?_)
        refine wp_drawnM hM (by kernel_rfl) (fun _ => False) [(0, true), (1, true), (2, true), (3, true), (4, true), (5, true), (6, true), (7, true), (8, true), (9, true), (10, true), (11, true), (12, true), (13, true), (14, true), (15, true), (16, true), (17, true), (18, true), (19, true), (20, true), (21, true), (22, true), (23, true), (24, true), (25, true)] [] (by kernel_rfl) rfl ?_
        intro w11 hM' hww11; clear hM; have hM := hM'; clear hM'
        refine s_move hE rfl rfl ?_; clear hE a; intro a hE
        refine s_move hE rfl rfl ?_; clear hE a; intro a hE
        refine s_len hE rfl Try.underlying37 (own_slice (hM.get 0 rfl)) rfl ?_; clear hE a; intro a hE
        refine s_bin hE rfl rfl bin_lss rfl ?_; clear hE a; intro a hE
        refine s_move hE rfl rfl ?_; clear hE a; intro a hE
        refine hE.split 126 rfl (fun hb126 hE' => ?_) (fun hb126 hE' => ?_)
        · replace hE := hE'; clear hE'
          replace hb126 := of_decide_eq_true hb126
          replace hb126 : k < (histL c0 (ts.take N)).length := by omega
          refine g_yes hE rfl rfl ?_
          refine s_move hE rfl rfl ?_; clear hE a; intro a hE
          refine g_yes hE rfl rfl ?_
          refine s_move hE rfl rfl ?_; clear hE a; intro a hE
          refine g_yes hE rfl rfl ?_
          obtain ⟨cx129, hx129⟩ := own_rd (hM.get 0 rfl)
          refine s_indexRd (j := k) hE rfl hx129 rfl slt37 (by first | rfl | omega) (by first | omega | (simp; omega) | decide) rfl ?_; clear hE a; intro a p129 hE hc129 hp129
          rw [cls_elem kN.ok hb126] at hc129
          refine g_yes hE rfl rfl ?_
          refine s_loadAtN hE rfl hc129 (by rw [cl_len (kN.get hb126)]; exact row26) (by intro X h; cases h; simp) rfl ?_; clear hE a; intro a hE
          refine g_yes hE rfl rfl ?_
          refine s_move hE rfl rfl ?_; clear hE a; intro a hE
          refine g_yes hE rfl rfl ?_
          refine s_move hE rfl rfl ?_; clear hE a; intro a hE
          refine g_yes hE rfl rfl ?_
          obtain ⟨cx133, hx133⟩ := own_rd (hM.get 1 rfl)
          refine s_indexRd (j := k) hE rfl hx133 rfl slt37 (by first | rfl | omega) (by first | omega | (simp; omega) | decide) rfl ?_; clear hE a; intro a p133 hE hc133 hp133
          rw [cls_elem kJ.ok hb119] at hc133
          refine g_yes hE rfl rfl ?_
          refine s_loadAtN hE rfl hc133 (by rw [cl_len (kJ.get hb119)]; exact row26) (by intro X h; cases h; simp) rfl ?_; clear hE a; intro a hE
          refine g_yes hE rfl rfl ?_
          refine s_bin hE rfl rfl (eqCl (kN.get hb126) (kJ.get hb119)).2 rfl ?_; clear hE a; intro a hE
          refine s_pickt hE rfl rfl rfl ?_; clear hE a; intro a hE
          refine s_move hE rfl rfl ?_; clear hE a; intro a hE
          replace hE := hE.cast 137 rfl (show _ = Value.bool false from (congrArg Value.bool (by rw [gJ k hb126]; simp)))
          refine g_yes hE rfl rfl ?_
          refine s_move hE rfl rfl ?_; clear hE a; intro a hE
          refine g_yes hE rfl rfl ?_
          refine s_move hE rfl rfl ?_; clear hE a; intro a hE
          refine g_yes hE rfl rfl ?_
          obtain ⟨cx140, hx140⟩ := own_rd (hM.get 1 rfl)
          refine s_indexRd (j := k) hE rfl hx140 rfl slt37 (by first | rfl | omega) (by first | omega | (simp; omega) | decide) rfl ?_; clear hE a; intro a p140 hE hc140 hp140
          rw [cls_elem kJ.ok hb119] at hc140
          refine g_yes hE rfl rfl ?_
          refine s_loadAtN hE rfl hc140 (by rw [cl_len (kJ.get hb119)]; exact row26) (by intro X h; cases h; simp) rfl ?_; clear hE a; intro a hE
          refine g_yes hE rfl rfl ?_
          refine s_move hE rfl rfl ?_; clear hE a; intro a hE
          refine g_yes hE rfl rfl ?_
          refine s_move hE rfl rfl ?_; clear hE a; intro a hE
          refine g_yes hE rfl rfl ?_
          obtain ⟨cx144, hx144⟩ := own_rd (hM.get 2 rfl)
          refine s_indexRd (j := k) hE rfl hx144 rfl slt37 (by first | rfl | omega) (by first | omega | (simp; omega) | decide) rfl ?_; clear hE a; intro a p144 hE hc144 hp144
          rw [cls_elem kJ.ok hb119] at hc144
          refine g_yes hE rfl rfl ?_
          refine s_loadAtN hE rfl hc144 (by rw [cl_len (kJ.get hb119)]; exact row26) (by intro X h; cases h; simp) rfl ?_; clear hE a; intro a hE
          refine g_yes hE rfl rfl ?_
          refine s_bin hE rfl rfl (eqCl (kJ.get hb119) (kJ.get hb119)).2 rfl ?_; clear hE a; intro a hE
          refine s_pickf hE rfl rfl rfl ?_; clear hE a; intro a hE
          refine q_nil ?_
          replace hE : Env a 149 [(18, _), (19, _), (20, _), (21, _), (119, _), (147, _)] := hE.sel [18, 19, 20, 21, 119, 147] rfl
          refine hK25 _ _ ?_
          replace hE := hE.cast 147 rfl (show _ = Value.bool false from (congrArg Value.bool (by simp)))
          refine wp_cond_false (hE.eval rfl) ?_
          refine wp_skip ?_
          refine q_block_n ?_
          refine hK24 _ _ ?_
          refine wp_plain [true, true, true] rfl rfl ?_
          refine s_move hE rfl rfl ?_; clear hE a; intro a hE
          refine s_bin hE rfl rfl (bin_add (wrap_i64 (by omega) (by omega))) rfl ?_; clear hE a; intro a hE
          refine s_assign hE rfl rfl ?_; clear hE a; intro a hE
          refine q_nil ?_
          replace hE : Env a 149 [(18, _), (19, _), (20, _), (21, _), (119, _), (147, _)] := hE.sel [18, 19, 20, 21, 119, 147] rfl
          replace hE := hE.cast 21 rfl (show _ = Value.int .i64 ((k + 1 : Nat) : Int) from congrArg _ (by omega))
          exact ⟨k + 1, ⟨by omega, hE.sel [18, 19, 20, 21] rfl, hM⟩, by omega⟩
        · replace hE := hE'; clear hE'
          replace hb126 := of_decide_eq_false hb126
          replace hb126 : ¬ k < (histL c0 (ts.take N)).length := by omega
          refine g_no (b := false) hE rfl rfl rfl ?_; clear hE a; intro a hE
          refine g_no (b := false) hE rfl rfl rfl ?_; clear hE a; intro a hE
          refine g_no (b := false) hE rfl rfl rfl ?_; clear hE a; intro a hE
          refine g_no (b := false) hE rfl rfl rfl ?_; clear hE a; intro a hE
          refine g_no (b := false) hE rfl rfl rfl ?_; clear hE a; intro a hE
          refine g_no (b := false) hE rfl rfl rfl ?_; clear hE a; intro a hE
          refine g_no (b := false) hE rfl rfl rfl ?_; clear hE a; intro a hE
          refine g_no (b := false) hE rfl rfl rfl ?_; clear hE a; intro a hE
          refine g_no (b := false) hE rfl rfl rfl ?_; clear hE a; intro a hE
          refine s_pickf hE rfl rfl rfl ?_; clear hE a; intro a hE
          refine s_move hE rfl rfl ?_; clear hE a; intro a hE
          refine g_yes hE rfl rfl ?_
          refine s_move hE rfl rfl ?_; clear hE a; intro a hE
          refine g_yes hE rfl rfl ?_
          refine s_move hE rfl rfl ?_; clear hE a; intro a hE
          refine g_yes hE rfl rfl ?_
          obtain ⟨cx140, hx140⟩ := own_rd (hM.get 1 rfl)
          refine s_indexRd (j := k) hE rfl hx140 rfl slt37 (by first | rfl | omega) (by first | omega | (simp; omega) | decide) rfl ?_; clear hE a; intro a p140 hE hc140 hp140
          rw [cls_elem kJ.ok hb119] at hc140
          refine g_yes hE rfl rfl ?_
          refine s_loadAtN hE rfl hc140 (by rw [cl_len (kJ.get hb119)]; exact row26) (by intro X h; cases h; simp) rfl ?_; clear hE a; intro a hE
          refine g_yes hE rfl rfl ?_
          refine s_move hE rfl rfl ?_; clear hE a; intro a hE
          refine g_yes hE rfl rfl ?_
          refine s_move hE rfl rfl ?_; clear hE a; intro a hE
          refine g_yes hE rfl rfl ?_
          obtain ⟨cx144, hx144⟩ := own_rd (hM.get 2 rfl)
          refine s_indexRd (j := k) hE rfl hx144 rfl slt37 (by first | rfl | omega) (by first | omega | (simp; omega) | decide) rfl ?_; clear hE a; intro a p144 hE hc144 hp144
          rw [cls_elem kJ.ok hb119] at hc144
          refine g_yes hE rfl rfl ?_
          refine s_loadAtN hE rfl hc144 (by rw [cl_len (kJ.get hb119)]; exact row26) (by intro X h; cases h; simp) rfl ?_; clear hE a; intro a hE
          refine g_yes hE rfl rfl ?_
          refine s_bin hE rfl rfl (eqCl (kJ.get hb119) (kJ.get hb119)).2 rfl ?_; clear hE a; intro a hE
          refine s_pickf hE rfl rfl rfl ?_; clear hE a; intro a hE
          refine q_nil ?_
          replace hE : Env a 149 [(18, _), (19, _), (20, _), (21, _), (119, _), (147, _)] := hE.sel [18, 19, 20, 21, 119, 147] rfl
          refine hK25 _ _ ?_
          replace hE := hE.cast 147 rfl (show _ = Value.bool false from (congrArg Value.bool (by simp)))
          refine wp_cond_false (hE.eval rfl) ?_
          refine wp_skip ?_
          refine q_block_n ?_
          refine hK24 _ _ ?_
          refine wp_plain [true, true, true] rfl rfl ?_
          refine s_move hE rfl rfl ?_; clear hE a; intro a hE
          refine s_bin hE rfl rfl (bin_add (wrap_i64 (by omega) (by omega))) rfl ?_; clear hE a; intro a hE
          refine s_assign hE rfl rfl ?_; clear hE a; intro a hE
          refine q_nil ?_
          replace hE : Env a 149 [(18, _), (19, _), (20, _), (21, _), (119, _), (147, _)] := hE.sel [18, 19, 20, 21, 119, 147] rfl
          replace hE := hE.cast 21 rfl (show _ = Value.int .i64 ((k + 1 : Nat) : Int) from congrArg _ (by omega))
          exact ⟨k + 1, ⟨by omega, hE.sel [18, 19, 20, 21] rfl, hM⟩, by omega⟩
      · replace hE := hE'; clear hE'
        replace hb119 := of_decide_eq_false hb119
        replace hb119 : ¬ k < ((us.take J).foldl advL (histL c0 (ts.take N))).length := by omega
        refine wp_cond_false (hE.eval rfl) ?_
        refine wp_exit ?_
        refine q_then_e ?_
        refine q_then_e ?_
        refine q_block_x ?_
        refine hK20 _ _ ?_
        refine wp_seq_k (fun K24 hK24 => ?_)
        refine wp_plain [false, true] rfl rfl ?_
        refine s_call hE rfl Try.call8 (works12_c _) rfl ?_
        rintro e w11 ⟨rfl, hN⟩
        refine ⟨_, rfl, trivial, ?_⟩; clear hE a; intro a hE
        replace hM : Mem _ _ w11 [_, _, _] := hM.call0 hN trivial; clear hN
        refine s_assign hE rfl rfl ?_; clear hE a; intro a hE
        refine q_nil ?_
        replace hE : Env a 149 [(6, _), (18, _), (19, _), (20, _), (21, _), (119, _)] := hE.sel [6, 18, 19, 20, 21, 119] rfl
        refine hK24 _ _ ?_
        refine wp_ret ?_
        refine f_ret1 hE rfl rfl ?_
        exact ⟨rfl, hM.nil⟩
theorem cellAlike_c (c0 : Cl) (v1 v2 : Value) (ts us : List (List UInt8)) (c1 c2 : Nat) (w : World) (h0 : OkCl c0) (hr1 : (rd v1 32 ts.length c1 (ts.flatMap bv)).holds w) (hr2 : (rd v2 32 us.length c2 (us.flatMap bv)).holds w) (hts : ∀ t, t ∈ ts → t.length = 32) (hus : ∀ t, t ∈ us → t.length = 32) : Calls Try.prog 6 #[.agg (cl c0).toArray, v1, v2] w fun e w' => e = .returned (.bool true) ∧ Mem w [] w' [] := by
  rcases Nat.lt_or_ge 4611686018427387904 c0.1 with h | h
  · exact cellAlike_bad c0 v1 v2 ts us c1 c2 w h0 hr1 hr2 hts hus h
  · exact cellAlike_ok c0 v1 v2 ts us c1 c2 w h0 hr1 hr2 hts hus h
set_option maxRecDepth 100000 in
theorem cellAlike_lifted (os : Os) (started : os.Started) (H : Type) (enc : TypeId × Value → H) :
    ReturnsInHanded {} Try.checked os 6 .any (Rows.cellAlikeSpec.pre6 enc Try.prog Try.f6 Rows.cellAlikeRow.domain false) (Rows.cellAlikeSpec.post enc Try.prog Try.f6 false true false false) := by
  refine law_lifted (C := Try.checked) (fn := Try.f6) (by kernel_rfl) started (by kernel_rfl) Try.func6 rfl (fun ds hl => ?_) rfl Try.underlying4 (by kernel_rfl) (of_decide_eq_true (by kernel_rfl)) (ChangeSpec.witness6 (enc := enc) (C := Try.checked) false ⟨#[], #[.agg (cl cl0).toArray, .slice none 0 0, .slice none 0 0], []⟩ 8 (by kernel_rfl) (by kernel_rfl) (by kernel_rfl) (by kernel_rfl)) ?_
  · rw [Try.params6] at hl
    match ds, hl with
    | [_, _, _], _ => rfl
  · intro W base args ds ps hval hA hw
    rw [Try.params6] at hA hval hw
    obtain ⟨v0, vs0, d0, ds0, p0, q0, hargs, rfl, rfl, h0, r0⟩ := trodAll_cons hA
    obtain ⟨v1, vs1, d1, ds1, p1, q1, rfl, rfl, rfl, h1, r1⟩ := trodAll_cons r0
    obtain ⟨v2, vs2, d2, ds2, p2, q2, rfl, rfl, rfl, h2, r2⟩ := trodAll_cons r1
    obtain ⟨rfl, rfl, rfl⟩ := trodAll_nil r2
    obtain rfl : args = #[v0, v1, v2] := by cases args; simp_all
    obtain ⟨c0, rfl, hc0⟩ := arg_cell (t0 := 22) (t1 := 24) Try.underlying26 (by kernel_rfl) (by kernel_rfl) Try.underlying22 Try.underlying24 Try.underlying5 (by kernel_rfl) (by kernel_rfl) (hval 0 26 v0 rfl rfl) h0 (fun m hm => hw m (by simp only [DataW.weightsEach, List.mem_append]; exact .inl hm))
    obtain ⟨ts1, k1, hr1, ht1, _⟩ := arg_rows (es := 32) Try.underlying27 (by kernel_rfl) (by kernel_rfl) (by decide) (by decide : 0 < 32) (dec_arr8 (n := 32) Try.underlying24 Try.underlying5 (by kernel_rfl) (by kernel_rfl)) (hval 1 27 v1 rfl rfl) h1 (fun m hm => hw m (by simp only [DataW.weightsEach, List.mem_append]; exact .inr (.inl hm)))
    obtain ⟨ts2, k2, hr2, ht2, _⟩ := arg_rows (es := 32) Try.underlying27 (by kernel_rfl) (by kernel_rfl) (by decide) (by decide : 0 < 32) (dec_arr8 (n := 32) Try.underlying24 Try.underlying5 (by kernel_rfl) (by kernel_rfl)) (hval 2 27 v2 rfl rfl) h2 (fun m hm => hw m (by simp only [DataW.weightsEach, List.mem_append]; exact .inr (.inr (.inl hm))))
    exact cellAlike_c c0 v1 v2 ts1 ts2 k1 k2 W hc0 hr1 hr2 ht1 ht2

/-- The statement. -/
theorem cellAlike_holds : Rows.CellAlikeSaid :=
  OpenClaim.holds_of_wide 6 Try.f6 rfl rfl rfl rfl rfl rfl rfl ⟨rfl, rfl, rfl, rfl, rfl⟩ rfl rfl rfl rfl rfl (by kernel_rfl) Try.func6 (by kernel_rfl)
    (of_decide_eq_true (by kernel_rfl)) (by unfold Func.isWrapper; first | (rw [if_pos (by decide +kernel)]; kernel_rfl) | (rw [if_neg (by decide +kernel)]; exact ⟨rfl, rfl⟩))
    (fun os started H enc _ => cellAlike_lifted os started H enc)
#print axioms cellAlike_holds
end Go.Proofs.Ytafokhpokeipkaa
