/- BoxKnown of casematelaw10 returns true. No condition. -/
import Derived.Test.YtniekapfoaiieaaDoorLg
import Derived.Test.YtniekapfoaiieaaDoorTie
import Derived.Test.YtniekapfoaiieaaDoorCards
set_option linter.unusedSimpArgs false
set_option linter.unusedVariables false
namespace Go.Proofs.YtniekapfoaiieaaDoor
open Go Go.Kx
open Go.ChangeShapes Go.WideShapes Go.ChangeAt Go.RowKit

theorem boxKnown_c  (w : World) (hG : (glb 1).holds w) (hT : tabP.holds w) : Calls Tryd.prog 7 #[] w fun e w' => e = .returned (.bool true) ∧ Mem w [] w' [] := by
  have hok := unw_ok (k := List.replicate 32 (1 : UInt8)) (l := [115, 108, 111, 116]) (n := 0) (x := List.replicate 32 (2 : UInt8)) List.length_replicate
  obtain ⟨hn1, hn2⟩ := unw_turn (k := List.replicate 32 (1 : UInt8)) (l := [115, 108, 111, 116]) (n := 0) (d := wrapD (List.replicate 32 (1 : UInt8)) [115, 108, 111, 116] 0 (List.replicate 32 (2 : UInt8))) (t := (tagB (List.replicate 32 (1 : UInt8)) [115, 108, 111, 116] 0 (wrapD (List.replicate 32 (1 : UInt8)) [115, 108, 111, 116] 0 (List.replicate 32 (2 : UInt8)))).set 31 ((tagB (List.replicate 32 (1 : UInt8)) [115, 108, 111, 116] 0 (wrapD (List.replicate 32 (1 : UInt8)) [115, 108, 111, 116] 0 (List.replicate 32 (2 : UInt8)))).getD 31 0 ^^^ 1)) (turn_ne (by rw [tagB_len]; decide))
  have hM : Mem w [] w [glb 1, tabP] := Mem.startR w (fun g hg => by
    simp only [List.mem_cons, List.not_mem_nil, or_false] at hg
    rcases hg with rfl | rfl
    · exact ⟨hG, rfl⟩
    · exact ⟨hT, rfl⟩)
  refine f_enter 128 Tryd.func7 rfl rfl rfl ?_
  intro a hE
  replace hE : Env a 128 [] := hE
  refine wp_seq_k (fun K1 hK1 => ?_)
  refine wp_plain [true] rfl rfl ?_
  refine s_assign hE rfl rfl ?_; clear hE a; intro a hE
  refine q_nil ?_
  refine hK1 _ _ ?_
  refine wp_seq_k (fun K2 hK2 => ?_)
  refine wp_plain [false, false] rfl rfl ?_
  refine s_alloc [32] hE hM zero23 rfl rfl ?_; clear hE a; intro a b1 w1 hE hM'
  clear hM; have hM := hM'; clear hM'
  refine s_alloc [32] hE hM zero23 rfl rfl ?_; clear hE a; intro a b2 w2 hE hM'
  clear hM; have hM := hM'; clear hM'
  refine q_nil ?_
  refine hK2 _ _ ?_
  refine wp_seq_k (fun K3 hK3 => ?_)
  refine wp_seq_k (fun K4 hK4 => ?_)
  refine wp_plain [true] rfl rfl ?_
  refine s_assign hE rfl rfl ?_; clear hE a; intro a hE
  refine q_nil ?_
  refine hK4 _ _ ?_
  refine wp_block ?_
  replace hM : Mem _ _ w2 [_, _, _, _] := hM.pick [1, 0, 2, 3] rfl
  replace hM := Mem.blkB (p := List.replicate 32 (0 : UInt8)) (q := (List.replicate 32 (1 : UInt8)).take 0 ++ List.replicate (32 - 0) 0) hM (by simp)
  replace hM : Mem _ _ w2 [_, _, _, _] := hM.pick [1, 0, 2, 3] rfl
  replace hM := Mem.blkB (p := List.replicate 32 (0 : UInt8)) (q := (List.replicate 32 (2 : UInt8)).take 0 ++ List.replicate (32 - 0) 0) hM (by simp)
  refine c_loop (fun (i : Nat) a w' => i ≤ 32 ∧ Env a 128 [(0, .bool false), (1, .pointer (some ⟨b1, 0, none⟩)), (2, .pointer (some ⟨b2, 0, none⟩)), (3, .int .i64 ((i : Nat) : Int))] ∧ Mem w [] w' [blk b2 [bv ((List.replicate 32 (2 : UInt8)).take i ++ List.replicate (32 - i) 0)] [32] 23, blk b1 [bv ((List.replicate 32 (1 : UInt8)).take i ++ List.replicate (32 - i) 0)] [32] 23, glb 1, tabP]) (fun i => 32 - i) 0 ⟨Nat.zero_le _, hE.sel [0, 1, 2, 3] rfl, hM⟩ ?_
  clear hE hM a; rintro i a w3 ⟨hi, hE, hM⟩
  refine wp_seq_k (fun K5 hK5 => ?_)
  refine wp_seq_k (fun K6 hK6 => ?_)
  refine wp_plain [true, true] rfl rfl ?_
  refine s_move hE rfl rfl ?_; clear hE a; intro a hE
  refine s_bin hE rfl rfl bin_lss rfl ?_; clear hE a; intro a hE
  refine q_nil ?_
  replace hE : Env a 128 [(0, _), (1, _), (2, _), (3, _), (19, _)] := hE.sel [0, 1, 2, 3, 19] rfl
  refine hK6 _ _ ?_
  refine hE.split 19 rfl (fun hb19 hE' => ?_) (fun hb19 hE' => ?_)
  · replace hE := hE'; clear hE'
    replace hb19 := of_decide_eq_true hb19
    replace hb19 : i < 32 := by omega
    replace hb19 : i < 32 := by omega
    refine wp_cond_true (hE.eval rfl) ?_
    refine wp_skip ?_
    refine hK5 _ _ ?_
    refine wp_seq_k (fun K7 hK7 => ?_)
    refine wp_block ?_
    refine wp_seq_k (fun K8 hK8 => ?_)
    refine wp_plain [true, true, false] rfl rfl ?_
    refine s_move hE rfl rfl ?_; clear hE a; intro a hE
    refine s_indexArr (j := i) hE rfl rfl arr23 (by first | rfl | omega) (by first | omega | decide) rfl ?_; clear hE a; intro a hE
    replace hM : Mem _ _ w3 [_, _, _, _] := hM.pick [1, 0, 2, 3] rfl
    refine s_storeIdx (j := i) hE rfl (by omega) rfl hM rfl rfl sz5 (by have hl_ : ((List.replicate 32 (1 : UInt8)).take i ++ List.replicate (32 - i) 0).length = 32 := (cpy_len List.length_replicate (by omega)); first | omega | (rw [bv_length]; omega) | (simp; omega)) (by intro X h; cases h) ?_; intro w4 hM'; clear hM; have hM := hM'; clear hM'
    first | rw [bv_set'] at hM | rw [bv_setI] at hM | rw [show Value.int .u8 1 = Value.int .u8 (((1 : UInt8).toNat : Nat) : Int) from rfl, bv_setI] at hM
    refine q_nil ?_
    replace hE : Env a 128 [(0, _), (1, _), (2, _), (3, _), (19, _)] := hE.sel [0, 1, 2, 3, 19] rfl
    refine hK8 _ _ ?_
    refine wp_plain [true, true, false] rfl rfl ?_
    refine s_move hE rfl rfl ?_; clear hE a; intro a hE
    refine s_indexArr (j := i) hE rfl rfl arr23 (by first | rfl | omega) (by first | omega | decide) rfl ?_; clear hE a; intro a hE
    replace hM : Mem _ _ w4 [_, _, _, _] := hM.pick [1, 0, 2, 3] rfl
    refine s_storeIdx (j := i) hE rfl (by omega) rfl hM rfl rfl sz5 (by have hl_ : ((List.replicate 32 (2 : UInt8)).take i ++ List.replicate (32 - i) 0).length = 32 := (cpy_len List.length_replicate (by omega)); first | omega | (rw [bv_length]; omega) | (simp; omega)) (by intro X h; cases h) ?_; intro w5 hM'; clear hM; have hM := hM'; clear hM'
    first | rw [bv_set'] at hM | rw [bv_setI] at hM | rw [show Value.int .u8 2 = Value.int .u8 (((2 : UInt8).toNat : Nat) : Int) from rfl, bv_setI] at hM
    refine q_nil ?_
    replace hE : Env a 128 [(0, _), (1, _), (2, _), (3, _), (19, _)] := hE.sel [0, 1, 2, 3, 19] rfl
    refine q_block_n ?_
    refine hK7 _ _ ?_
    refine wp_plain [true, true, true] rfl rfl ?_
    refine s_move hE rfl rfl ?_; clear hE a; intro a hE
    refine s_bin hE rfl rfl (show Bin _ _ _ _ _ (.int .i64 ((i + 1 : Nat) : Int)) from bin_add (by rw [wrap_i64 (by omega) (by omega)]; omega)) rfl ?_; clear hE a; intro a hE
    refine s_assign hE rfl rfl ?_; clear hE a; intro a hE
    refine q_nil ?_
    replace hE : Env a 128 [(0, _), (1, _), (2, _), (3, _), (19, _)] := hE.sel [0, 1, 2, 3, 19] rfl
    replace hE := hE.cast 3 rfl (show _ = Value.int .i64 (((i + 1) : Nat) : Int) from (congrArg _ (by omega)))
    replace hM : Mem _ _ w5 [_, _, _, _] := hM.pick [1, 0, 2, 3] rfl
    replace hM := Mem.blkB (p := ((List.replicate 32 (1 : UInt8)).take i ++ List.replicate (32 - i) 0).set i 1) (q := (List.replicate 32 (1 : UInt8)).take (i + 1) ++ List.replicate (32 - (i + 1)) 0) hM (fill8_set (by omega))
    replace hM : Mem _ _ w5 [_, _, _, _] := hM.pick [1, 0, 2, 3] rfl
    replace hM := Mem.blkB (p := ((List.replicate 32 (2 : UInt8)).take i ++ List.replicate (32 - i) 0).set i 2) (q := (List.replicate 32 (2 : UInt8)).take (i + 1) ++ List.replicate (32 - (i + 1)) 0) hM (fill8_set (by omega))
    replace hM : Mem _ _ w5 [_, _, _, _] := hM.pick [0, 1, 2, 3] rfl
    exact ⟨i + 1, ⟨by omega, hE.sel [0, 1, 2, 3] rfl, hM⟩, by omega⟩
  · replace hE := hE'; clear hE'
    replace hb19 := of_decide_eq_false hb19
    replace hb19 : ¬ (i < 32) := by omega
    obtain rfl : 32 = i := by omega
    replace hM : Mem _ _ w3 [_, _, _, _] := hM.pick [1, 0, 2, 3] rfl
    replace hM := Mem.blkB (p := (List.replicate 32 (1 : UInt8)).take 32 ++ List.replicate (32 - 32) 0) (q := List.replicate 32 (1 : UInt8)) hM (cpy_end List.length_replicate)
    replace hM : Mem _ _ w3 [_, _, _, _] := hM.pick [1, 0, 2, 3] rfl
    replace hM := Mem.blkB (p := (List.replicate 32 (2 : UInt8)).take 32 ++ List.replicate (32 - 32) 0) (q := List.replicate 32 (2 : UInt8)) hM (cpy_end List.length_replicate)
    refine wp_cond_false (hE.eval rfl) ?_
    refine wp_exit ?_
    refine q_then_e ?_
    refine q_then_e ?_
    refine q_block_x ?_
    refine hK3 _ _ ?_
    refine wp_seq_k (fun K7 hK7 => ?_)
    refine wp_plain [true, true, false, false, false] rfl rfl ?_
    refine s_loadN hE rfl (hM.get 1 rfl) row23 rfl (by intro X h; cases h) rfl ?_; clear hE a; intro a hE
    refine s_loadN hE rfl (hM.get 0 rfl) row23 rfl (by intro X h; cases h) rfl ?_; clear hE a; intro a hE
    refine s_call hE rfl Tryd.call14 (wrap_c (List.replicate 32 (1 : UInt8)) [115, 108, 111, 116] 0 (List.replicate 32 (2 : UInt8)) _ (hM.get 2 rfl) (hM.get 3 rfl) List.length_replicate List.length_replicate (by have hl_0 : (List.replicate 32 (1 : UInt8)).length = 32 := List.length_replicate; have hl_1 : [115, 108, 111, 116].length = 4 := (by first | (simp; done) | (simp [*]; done) | (simp; omega)); have hl_3 : (List.replicate 32 (2 : UInt8)).length = 32 := List.length_replicate; first | omega | assumption | (simp; done) | (simp; omega) | decide) (by have hl_0 : (List.replicate 32 (1 : UInt8)).length = 32 := List.length_replicate; have hl_1 : [115, 108, 111, 116].length = 4 := (by first | (simp; done) | (simp [*]; done) | (simp; omega)); have hl_3 : (List.replicate 32 (2 : UInt8)).length = 32 := List.length_replicate; first | omega | assumption | (simp; done) | (simp; omega) | decide)) rfl ?_
    rintro e w4 ⟨rfl, hN⟩
    refine ⟨_, rfl, trivial, ?_⟩; clear hE a; intro a hE
    replace hM : Mem _ _ w4 [_, _, _, _] := hM.call0 hN trivial; clear hN
    refine s_alloc [32, 32] hE hM zero29 rfl rfl ?_; clear hE a; intro a b4 w5 hE hM'
    clear hM; have hM := hM'; clear hM'
    refine s_storeSegs 0 2 (vss := [bv (wrapD (List.replicate 32 (1 : UInt8)) [115, 108, 111, 116] 0 (List.replicate 32 (2 : UInt8))), bv (tagB (List.replicate 32 (1 : UInt8)) [115, 108, 111, 116] 0 (wrapD (List.replicate 32 (1 : UInt8)) [115, 108, 111, 116] 0 (List.replicate 32 (2 : UInt8))))]) hE rfl rfl hM rfl sz29 (by have hl_s0 : (wrapD (List.replicate 32 (1 : UInt8)) [115, 108, 111, 116] 0 (List.replicate 32 (2 : UInt8))).length = 32 := (wrapD_len (k := (List.replicate 32 (1 : UInt8))) (l := [115, 108, 111, 116]) (n := 0) (x := (List.replicate 32 (2 : UInt8))) (by have hl_ax : (List.replicate 32 (2 : UInt8)).length = 32 := List.length_replicate; first | assumption | (simp; done))); have hl_s1 : (tagB (List.replicate 32 (1 : UInt8)) [115, 108, 111, 116] 0 (wrapD (List.replicate 32 (1 : UInt8)) [115, 108, 111, 116] 0 (List.replicate 32 (2 : UInt8)))).length = 32 := (tagB_len (List.replicate 32 (1 : UInt8)) [115, 108, 111, 116] 0 (wrapD (List.replicate 32 (1 : UInt8)) [115, 108, 111, 116] 0 (List.replicate 32 (2 : UInt8))));  simp only [List.map_cons, List.map_nil, bv_length, List.length_cons, List.length_nil, List.take_succ_cons, List.take_zero, List.drop_zero, List.drop_succ_cons, hl_s0, hl_s1]) (by decide) rfl (one_fl ⟨bv_one _, bv_one _, trivial⟩) rfl (by intro X h; cases h) ?_; intro w6 hM'; clear hM; have hM := hM'; clear hM'
    simp only [List.take_zero, List.take_succ_cons, List.drop_zero, List.drop_succ_cons, List.take_nil, List.drop_nil, List.nil_append, List.append_nil, List.cons_append] at hM
    refine q_nil ?_
    replace hE : Env a 128 [(0, _), (1, _), (2, _), (3, _), (4, _), (19, _)] := hE.sel [0, 1, 2, 3, 4, 19] rfl
    refine hK7 _ _ ?_
    refine wp_seq_k (fun K8 hK8 => ?_)
    refine wp_plain [true, false, false, false] rfl rfl ?_
    refine s_loadN hE rfl (hM.get 2 rfl) row23 rfl (by intro X h; cases h) rfl ?_; clear hE a; intro a hE
    refine s_call hE rfl Tryd.call18 (sub_c (List.replicate 32 (1 : UInt8)) (str [115, 108, 111, 116, 32, 112, 97, 100, 32, 48]) _ (hM.get 3 rfl) List.length_replicate (by show ([115, 108, 111, 116, 32, 112, 97, 100, 32, 48]).length ≤ _; have hl_ : [115, 108, 111, 116, 32, 112, 97, 100, 32, 48].length = 10 := (by first | (simp; done) | (simp [*]; done) | (simp; omega)); first | omega | (simp; omega) | decide)) rfl ?_
    rintro e w7 ⟨rfl, hN⟩
    refine ⟨_, rfl, trivial, ?_⟩; clear hE a; intro a hE
    replace hM : Mem _ _ w7 [_, _, _, _, _] := hM.call0 hN trivial; clear hN
    replace hE := hE.cast 30 rfl (show _ = Value.agg (bv (subW (List.replicate 32 (1 : UInt8)) [115, 108, 111, 116, 32, 112, 97, 100, 32, 48])).toArray from rfl)
    refine s_alloc [32] hE hM zero23 rfl rfl ?_; clear hE a; intro a b5 w8 hE hM'
    clear hM; have hM := hM'; clear hM'
    refine s_storeSeg 0 hE rfl rfl hM rfl sz23 ((bv_length _).trans (subW_length (List.replicate 32 (1 : UInt8)) [115, 108, 111, 116, 32, 112, 97, 100, 32, 48])) (bv_one _) rfl ((bv_length _).trans (by first | (simp; done) | (simp [*]; done) | (simp; omega))) rfl (by intro X h; cases h) ?_; intro w9 hM'; clear hM; have hM := hM'; clear hM'
    simp only [List.set_cons_zero, List.set_cons_succ] at hM
    refine q_nil ?_
    replace hE : Env a 128 [(0, _), (1, _), (2, _), (3, _), (4, _), (5, _), (19, _)] := hE.sel [0, 1, 2, 3, 4, 5, 19] rfl
    refine hK8 _ _ ?_
    refine wp_seq_k (fun K9 hK9 => ?_)
    refine wp_seq_k (fun K10 hK10 => ?_)
    refine wp_plain [true] rfl rfl ?_
    refine s_assign hE rfl rfl ?_; clear hE a; intro a hE
    refine q_nil ?_
    refine hK10 _ _ ?_
    refine wp_block ?_
    refine c_loop (fun (i : Nat) a w' => i ≤ 32 ∧ Env a 128 [(0, .bool false), (1, .pointer (some ⟨b1, 0, none⟩)), (2, .pointer (some ⟨b2, 0, none⟩)), (3, .int .i64 32), (4, .pointer (some ⟨b4, 0, none⟩)), (5, .pointer (some ⟨b5, 0, none⟩)), (6, .int .i64 ((i : Nat) : Int)), (19, .bool false)] ∧ Mem w [] w' [blk b5 [bv (subW (List.replicate 32 (1 : UInt8)) [115, 108, 111, 116, 32, 112, 97, 100, 32, 48])] [32] 23, blk b4 [bv (wrapD (List.replicate 32 (1 : UInt8)) [115, 108, 111, 116] 0 (List.replicate 32 (2 : UInt8))), bv (tagB (List.replicate 32 (1 : UInt8)) [115, 108, 111, 116] 0 (wrapD (List.replicate 32 (1 : UInt8)) [115, 108, 111, 116] 0 (List.replicate 32 (2 : UInt8))))] [32, 32] 29, blk b2 [bv (List.replicate 32 (2 : UInt8))] [32] 23, blk b1 [bv (List.replicate 32 (1 : UInt8))] [32] 23, glb 1, tabP]) (fun i => 32 - i) 0 ⟨Nat.zero_le _, hE.sel [0, 1, 2, 3, 4, 5, 6, 19] rfl, hM⟩ ?_
    clear hE hM a; rintro i a w10 ⟨hi, hE, hM⟩
    refine wp_seq_k (fun K11 hK11 => ?_)
    refine wp_seq_k (fun K12 hK12 => ?_)
    refine wp_plain [true, true] rfl rfl ?_
    refine s_move hE rfl rfl ?_; clear hE a; intro a hE
    refine s_bin hE rfl rfl bin_lss rfl ?_; clear hE a; intro a hE
    refine q_nil ?_
    replace hE : Env a 128 [(0, _), (1, _), (2, _), (3, _), (4, _), (5, _), (6, _), (19, _), (32, _)] := hE.sel [0, 1, 2, 3, 4, 5, 6, 19, 32] rfl
    refine hK12 _ _ ?_
    refine hE.split 32 rfl (fun hb32 hE' => ?_) (fun hb32 hE' => ?_)
    · replace hE := hE'; clear hE'
      replace hb32 := of_decide_eq_true hb32
      replace hb32 : i < 32 := by omega
      replace hb32 : i < 32 := by omega
      refine wp_cond_true (hE.eval rfl) ?_
      refine wp_skip ?_
      refine hK11 _ _ ?_
      refine wp_seq_k (fun K13 hK13 => ?_)
      refine wp_block ?_
      refine wp_seq_k (fun K14 hK14 => ?_)
      refine wp_drawnM hM (by kernel_rfl) (fun _ => False) [(0, true), (1, true), (2, true), (3, true), (4, true), (5, true), (6, true), (7, true), (8, true)] [] (by kernel_rfl) rfl ?_
      intro w11 hM' hww11; clear hM; have hM := hM'; clear hM'
      refine s_move hE rfl rfl ?_; clear hE a; intro a hE
      refine s_fieldAddr hE rfl fo29_0 rfl ?_; clear hE a; intro a hE
      refine s_indexArr (j := i) hE rfl rfl arr23 (by first | rfl | omega) (by first | omega | decide) rfl ?_; clear hE a; intro a hE
      refine s_loadPart8 (j := i) (g := wrapD (List.replicate 32 (1 : UInt8)) [115, 108, 111, 116] 0 (List.replicate 32 (2 : UInt8))) 0 hE rfl (by first | rfl | omega | (simp; done) | (simp; omega)) (hM.get 1 rfl) rfl (by have hl_ : (wrapD (List.replicate 32 (1 : UInt8)) [115, 108, 111, 116] 0 (List.replicate 32 (2 : UInt8))).length = 32 := (wrapD_len (k := (List.replicate 32 (1 : UInt8))) (l := [115, 108, 111, 116]) (n := 0) (x := (List.replicate 32 (2 : UInt8))) (by have hl_ax : (List.replicate 32 (2 : UInt8)).length = 32 := List.length_replicate; first | assumption | (simp; done))); first | omega | (rw [bv_length]; omega) | (simp; omega)) one5 (by intro X h; cases h; simp) rfl ?_; clear hE a; intro a hE
      refine s_move hE rfl rfl ?_; clear hE a; intro a hE
      refine s_indexArr (j := i) hE rfl rfl arr23 (by first | rfl | omega) (by first | omega | decide) rfl ?_; clear hE a; intro a hE
      refine s_loadIdx (j := i) hE rfl (by omega) (hM.get 0 rfl) (bv_get (by have hl_ : (subW (List.replicate 32 (1 : UInt8)) [115, 108, 111, 116, 32, 112, 97, 100, 32, 48]).length = 32 := (subW_length (List.replicate 32 (1 : UInt8)) [115, 108, 111, 116, 32, 112, 97, 100, 32, 48]); first | omega | (rw [bv_length]; omega) | (simp; omega))) one5 (by intro X h; cases h; simp) rfl ?_; clear hE a; intro a hE
      refine s_bin hE rfl rfl (bin_xor8 (x := (wrapD (List.replicate 32 (1 : UInt8)) [115, 108, 111, 116] 0 (List.replicate 32 (2 : UInt8))).getD i 0) (y := (subW (List.replicate 32 (1 : UInt8)) [115, 108, 111, 116, 32, 112, 97, 100, 32, 48]).getD i 0)) rfl ?_; clear hE a; intro a hE
      refine s_bin hE rfl rfl bin_neq rfl ?_; clear hE a; intro a hE
      refine q_nil ?_
      replace hE : Env a 128 [(0, _), (1, _), (2, _), (3, _), (4, _), (5, _), (6, _), (19, _), (32, _), (43, _)] := hE.sel [0, 1, 2, 3, 4, 5, 6, 19, 32, 43] rfl
      refine hK14 _ _ ?_
      replace hE := hE.cast 43 rfl (show _ = Value.bool false from (congrArg Value.bool (by have hw := wrap_pad (k := List.replicate 32 (1 : UInt8)) (l := [115, 108, 111, 116]) (n := 0) (x := List.replicate 32 (2 : UInt8)) (i := i) List.length_replicate (by omega); rw [mask_slot, hw, rep_getD (by omega)]; rfl)))
      refine wp_cond_false (hE.eval rfl) ?_
      refine wp_skip ?_
      refine q_block_n ?_
      refine hK13 _ _ ?_
      refine wp_plain [true, true, true] rfl rfl ?_
      refine s_move hE rfl rfl ?_; clear hE a; intro a hE
      refine s_bin hE rfl rfl (show Bin _ _ _ _ _ (.int .i64 ((i + 1 : Nat) : Int)) from bin_add (by rw [wrap_i64 (by omega) (by omega)]; omega)) rfl ?_; clear hE a; intro a hE
      refine s_assign hE rfl rfl ?_; clear hE a; intro a hE
      refine q_nil ?_
      replace hE : Env a 128 [(0, _), (1, _), (2, _), (3, _), (4, _), (5, _), (6, _), (19, _), (32, _), (43, _)] := hE.sel [0, 1, 2, 3, 4, 5, 6, 19, 32, 43] rfl
      replace hE := hE.cast 6 rfl (show _ = Value.int .i64 (((i + 1) : Nat) : Int) from (congrArg _ (by omega)))
      replace hM : Mem _ _ w11 [_, _, _, _, _, _] := hM.pick [0, 1, 2, 3, 4, 5] rfl
      exact ⟨i + 1, ⟨by omega, hE.sel [0, 1, 2, 3, 4, 5, 6, 19] rfl, hM⟩, by omega⟩
    · replace hE := hE'; clear hE'
      replace hb32 := of_decide_eq_false hb32
      replace hb32 : ¬ (i < 32) := by omega
      obtain rfl : 32 = i := by omega
      refine wp_cond_false (hE.eval rfl) ?_
      refine wp_exit ?_
      refine q_then_e ?_
      refine q_then_e ?_
      refine q_block_x ?_
      refine hK9 _ _ ?_
      refine wp_seq_k (fun K13 hK13 => ?_)
      refine wp_plain [true, true, false, true, true, true, false, false, true] rfl rfl ?_
      refine s_loadN hE rfl (hM.get 3 rfl) row23 rfl (by intro X h; cases h) rfl ?_; clear hE a; intro a hE
      refine s_loadN hE rfl (hM.get 1 rfl) row29 rfl (by intro X h; cases h) rfl ?_; clear hE a; intro a hE
      replace hE := hE.cast 46 rfl (show _ = Value.agg ([bv (wrapD (List.replicate 32 (1 : UInt8)) [115, 108, 111, 116] 0 (List.replicate 32 (2 : UInt8))), bv (tagB (List.replicate 32 (1 : UInt8)) [115, 108, 111, 116] 0 (wrapD (List.replicate 32 (1 : UInt8)) [115, 108, 111, 116] 0 (List.replicate 32 (2 : UInt8))))] : List (List Value)).flatten.toArray from (by first | (simp only [List.flatten_cons, List.flatten_nil, List.append_nil, List.append_assoc]; done) | rfl | simp))
      refine s_call hE rfl Tryd.call16 (unwrap_c (List.replicate 32 (1 : UInt8)) [115, 108, 111, 116] 0 (wrapD (List.replicate 32 (1 : UInt8)) [115, 108, 111, 116] 0 (List.replicate 32 (2 : UInt8))) (tagB (List.replicate 32 (1 : UInt8)) [115, 108, 111, 116] 0 (wrapD (List.replicate 32 (1 : UInt8)) [115, 108, 111, 116] 0 (List.replicate 32 (2 : UInt8)))) _ (hM.get 4 rfl) (hM.get 5 rfl) List.length_replicate (wrapD_len (k := (List.replicate 32 (1 : UInt8))) (l := [115, 108, 111, 116]) (n := 0) (x := (List.replicate 32 (2 : UInt8))) (by have hl_ax : (List.replicate 32 (2 : UInt8)).length = 32 := List.length_replicate; first | assumption | (simp; done))) (tagB_len (List.replicate 32 (1 : UInt8)) [115, 108, 111, 116] 0 (wrapD (List.replicate 32 (1 : UInt8)) [115, 108, 111, 116] 0 (List.replicate 32 (2 : UInt8)))) (by have hl_0 : (List.replicate 32 (1 : UInt8)).length = 32 := List.length_replicate; have hl_1 : [115, 108, 111, 116].length = 4 := (by first | (simp; done) | (simp [*]; done) | (simp; omega)); have hl_3d : (wrapD (List.replicate 32 (1 : UInt8)) [115, 108, 111, 116] 0 (List.replicate 32 (2 : UInt8))).length = 32 := (wrapD_len (k := (List.replicate 32 (1 : UInt8))) (l := [115, 108, 111, 116]) (n := 0) (x := (List.replicate 32 (2 : UInt8))) (by have hl_ax : (List.replicate 32 (2 : UInt8)).length = 32 := List.length_replicate; first | assumption | (simp; done))); have hl_3t : (tagB (List.replicate 32 (1 : UInt8)) [115, 108, 111, 116] 0 (wrapD (List.replicate 32 (1 : UInt8)) [115, 108, 111, 116] 0 (List.replicate 32 (2 : UInt8)))).length = 32 := (tagB_len (List.replicate 32 (1 : UInt8)) [115, 108, 111, 116] 0 (wrapD (List.replicate 32 (1 : UInt8)) [115, 108, 111, 116] 0 (List.replicate 32 (2 : UInt8)))); first | omega | assumption | (simp; done) | (simp; omega) | decide) (by have hl_0 : (List.replicate 32 (1 : UInt8)).length = 32 := List.length_replicate; have hl_1 : [115, 108, 111, 116].length = 4 := (by first | (simp; done) | (simp [*]; done) | (simp; omega)); have hl_3d : (wrapD (List.replicate 32 (1 : UInt8)) [115, 108, 111, 116] 0 (List.replicate 32 (2 : UInt8))).length = 32 := (wrapD_len (k := (List.replicate 32 (1 : UInt8))) (l := [115, 108, 111, 116]) (n := 0) (x := (List.replicate 32 (2 : UInt8))) (by have hl_ax : (List.replicate 32 (2 : UInt8)).length = 32 := List.length_replicate; first | assumption | (simp; done))); have hl_3t : (tagB (List.replicate 32 (1 : UInt8)) [115, 108, 111, 116] 0 (wrapD (List.replicate 32 (1 : UInt8)) [115, 108, 111, 116] 0 (List.replicate 32 (2 : UInt8)))).length = 32 := (tagB_len (List.replicate 32 (1 : UInt8)) [115, 108, 111, 116] 0 (wrapD (List.replicate 32 (1 : UInt8)) [115, 108, 111, 116] 0 (List.replicate 32 (2 : UInt8)))); first | omega | assumption | (simp; done) | (simp; omega) | decide)) rfl ?_
      rintro e w11 ⟨rfl, hN⟩
      refine ⟨_, rfl, trivial, ?_⟩; clear hE a; intro a hE
      replace hM : Mem _ _ w11 [_, _, _, _, _, _] := hM.call0 hN trivial; clear hN
      refine s_move hE rfl rfl ?_; clear hE a; intro a hE
      refine s_extract hE rfl rfl rfl ?_; clear hE a; intro a hE
      refine s_extract hE rfl rfl rfl ?_; clear hE a; intro a hE
      refine s_alloc [32] hE hM zero23 rfl rfl ?_; clear hE a; intro a b7 w12 hE hM'
      clear hM; have hM := hM'; clear hM'
      refine s_storeSeg 0 hE rfl rfl hM rfl sz23 ((bv_length _).trans (unwK_len (k := (List.replicate 32 (1 : UInt8))) (l := [115, 108, 111, 116]) (n := 0) (d := (wrapD (List.replicate 32 (1 : UInt8)) [115, 108, 111, 116] 0 (List.replicate 32 (2 : UInt8)))) (t := (tagB (List.replicate 32 (1 : UInt8)) [115, 108, 111, 116] 0 (wrapD (List.replicate 32 (1 : UInt8)) [115, 108, 111, 116] 0 (List.replicate 32 (2 : UInt8))))) (by have hl_std : (wrapD (List.replicate 32 (1 : UInt8)) [115, 108, 111, 116] 0 (List.replicate 32 (2 : UInt8))).length = 32 := (wrapD_len (k := (List.replicate 32 (1 : UInt8))) (l := [115, 108, 111, 116]) (n := 0) (x := (List.replicate 32 (2 : UInt8))) (by have hl_ax : (List.replicate 32 (2 : UInt8)).length = 32 := List.length_replicate; first | assumption | (simp; done))); first | assumption | (simp; done)))) (bv_one _) rfl ((bv_length _).trans (by first | (simp; done) | (simp [*]; done) | (simp; omega))) rfl (by intro X h; cases h) ?_; intro w13 hM'; clear hM; have hM := hM'; clear hM'
      simp only [List.set_cons_zero, List.set_cons_succ] at hM
      refine s_assign hE rfl rfl ?_; clear hE a; intro a hE
      refine q_nil ?_
      replace hE : Env a 128 [(0, _), (1, _), (2, _), (3, _), (4, _), (5, _), (6, _), (7, _), (8, _), (19, _), (32, _)] := hE.sel [0, 1, 2, 3, 4, 5, 6, 7, 8, 19, 32] rfl
      refine hK13 _ _ ?_
      refine wp_seq_k (fun K14 hK14 => ?_)
      refine wp_plain [true, false, false] rfl rfl ?_
      refine s_loadN hE rfl (hM.get 2 rfl) row29 rfl (by intro X h; cases h) rfl ?_; clear hE a; intro a hE
      replace hE := hE.cast 50 rfl (show _ = Value.agg ([bv (wrapD (List.replicate 32 (1 : UInt8)) [115, 108, 111, 116] 0 (List.replicate 32 (2 : UInt8))), bv (tagB (List.replicate 32 (1 : UInt8)) [115, 108, 111, 116] 0 (wrapD (List.replicate 32 (1 : UInt8)) [115, 108, 111, 116] 0 (List.replicate 32 (2 : UInt8))))] : List (List Value)).flatten.toArray from (by first | (simp only [List.flatten_cons, List.flatten_nil, List.append_nil, List.append_assoc]; done) | rfl | simp))
      refine s_alloc [32, 32] hE hM zero29 rfl rfl ?_; clear hE a; intro a b9 w14 hE hM'
      clear hM; have hM := hM'; clear hM'
      refine s_storeSegs 0 2 (vss := [bv (wrapD (List.replicate 32 (1 : UInt8)) [115, 108, 111, 116] 0 (List.replicate 32 (2 : UInt8))), bv (tagB (List.replicate 32 (1 : UInt8)) [115, 108, 111, 116] 0 (wrapD (List.replicate 32 (1 : UInt8)) [115, 108, 111, 116] 0 (List.replicate 32 (2 : UInt8))))]) hE rfl rfl hM rfl sz29 (by have hl_s0 : (wrapD (List.replicate 32 (1 : UInt8)) [115, 108, 111, 116] 0 (List.replicate 32 (2 : UInt8))).length = 32 := (wrapD_len (k := (List.replicate 32 (1 : UInt8))) (l := [115, 108, 111, 116]) (n := 0) (x := (List.replicate 32 (2 : UInt8))) (by have hl_ax : (List.replicate 32 (2 : UInt8)).length = 32 := List.length_replicate; first | assumption | (simp; done))); have hl_s1 : (tagB (List.replicate 32 (1 : UInt8)) [115, 108, 111, 116] 0 (wrapD (List.replicate 32 (1 : UInt8)) [115, 108, 111, 116] 0 (List.replicate 32 (2 : UInt8)))).length = 32 := (tagB_len (List.replicate 32 (1 : UInt8)) [115, 108, 111, 116] 0 (wrapD (List.replicate 32 (1 : UInt8)) [115, 108, 111, 116] 0 (List.replicate 32 (2 : UInt8))));  simp only [List.map_cons, List.map_nil, bv_length, List.length_cons, List.length_nil, List.take_succ_cons, List.take_zero, List.drop_zero, List.drop_succ_cons, hl_s0, hl_s1]) (by decide) rfl (one_fl ⟨bv_one _, bv_one _, trivial⟩) rfl (by intro X h; cases h) ?_; intro w15 hM'; clear hM; have hM := hM'; clear hM'
      simp only [List.take_zero, List.take_succ_cons, List.drop_zero, List.drop_succ_cons, List.take_nil, List.drop_nil, List.nil_append, List.append_nil, List.cons_append] at hM
      refine q_nil ?_
      replace hE : Env a 128 [(0, _), (1, _), (2, _), (3, _), (4, _), (5, _), (6, _), (7, _), (8, _), (9, _), (19, _), (32, _)] := hE.sel [0, 1, 2, 3, 4, 5, 6, 7, 8, 9, 19, 32] rfl
      refine hK14 _ _ ?_
      refine wp_seq_k (fun K15 hK15 => ?_)
      refine wp_plain [true, true, true, true, true, true, false] rfl rfl ?_
      refine s_fieldAddr hE rfl fo29_1 rfl ?_; clear hE a; intro a hE
      refine s_indexArr (j := 31) hE rfl rfl arr27 (by first | rfl | omega) (by first | omega | decide) rfl ?_; clear hE a; intro a hE
      refine s_loadPart8 (j := 31) (g := tagB (List.replicate 32 (1 : UInt8)) [115, 108, 111, 116] 0 (wrapD (List.replicate 32 (1 : UInt8)) [115, 108, 111, 116] 0 (List.replicate 32 (2 : UInt8)))) 1 hE rfl (by first | rfl | omega | (simp; done) | (simp; omega)) (hM.get 0 rfl) rfl (by have hl_ : (tagB (List.replicate 32 (1 : UInt8)) [115, 108, 111, 116] 0 (wrapD (List.replicate 32 (1 : UInt8)) [115, 108, 111, 116] 0 (List.replicate 32 (2 : UInt8)))).length = 32 := (tagB_len (List.replicate 32 (1 : UInt8)) [115, 108, 111, 116] 0 (wrapD (List.replicate 32 (1 : UInt8)) [115, 108, 111, 116] 0 (List.replicate 32 (2 : UInt8)))); first | omega | (rw [bv_length]; omega) | (simp; omega)) one5 (by intro X h; cases h) rfl ?_; clear hE a; intro a hE
      refine s_bin hE rfl rfl (bin_xor8 (x := (tagB (List.replicate 32 (1 : UInt8)) [115, 108, 111, 116] 0 (wrapD (List.replicate 32 (1 : UInt8)) [115, 108, 111, 116] 0 (List.replicate 32 (2 : UInt8)))).getD 31 0) (y := 1)) rfl ?_; clear hE a; intro a hE
      refine s_fieldAddr hE rfl fo29_1 rfl ?_; clear hE a; intro a hE
      refine s_indexArr (j := 31) hE rfl rfl arr27 (by first | rfl | omega) (by first | omega | decide) rfl ?_; clear hE a; intro a hE
      refine s_storePart8 (j := 31) (g := tagB (List.replicate 32 (1 : UInt8)) [115, 108, 111, 116] 0 (wrapD (List.replicate 32 (1 : UInt8)) [115, 108, 111, 116] 0 (List.replicate 32 (2 : UInt8)))) (c := ((tagB (List.replicate 32 (1 : UInt8)) [115, 108, 111, 116] 0 (wrapD (List.replicate 32 (1 : UInt8)) [115, 108, 111, 116] 0 (List.replicate 32 (2 : UInt8)))).getD 31 0) ^^^ 1) 1 hE rfl (by first | rfl | omega | (simp; done) | (simp; omega)) rfl hM sz5 rfl (by have hl_ : (tagB (List.replicate 32 (1 : UInt8)) [115, 108, 111, 116] 0 (wrapD (List.replicate 32 (1 : UInt8)) [115, 108, 111, 116] 0 (List.replicate 32 (2 : UInt8)))).length = 32 := (tagB_len (List.replicate 32 (1 : UInt8)) [115, 108, 111, 116] 0 (wrapD (List.replicate 32 (1 : UInt8)) [115, 108, 111, 116] 0 (List.replicate 32 (2 : UInt8)))); first | omega | (rw [bv_length]; omega) | (simp; omega)) (by intro X h; cases h) ?_; intro w16 hM'; clear hM; have hM := hM'; clear hM'
      simp only [List.set_cons_zero, List.set_cons_succ] at hM
      refine q_nil ?_
      replace hE : Env a 128 [(0, _), (1, _), (2, _), (3, _), (4, _), (5, _), (6, _), (7, _), (8, _), (9, _), (19, _), (32, _)] := hE.sel [0, 1, 2, 3, 4, 5, 6, 7, 8, 9, 19, 32] rfl
      refine hK15 _ _ ?_
      refine wp_seq_k (fun K16 hK16 => ?_)
      refine wp_plain [true, true, false, true, true, true, false, false, true] rfl rfl ?_
      refine s_loadN hE rfl (hM.get 5 rfl) row23 rfl (by intro X h; cases h) rfl ?_; clear hE a; intro a hE
      refine s_loadN hE rfl (hM.get 0 rfl) row29 rfl (by intro X h; cases h) rfl ?_; clear hE a; intro a hE
      replace hE := hE.cast 59 rfl (show _ = Value.agg ([bv (wrapD (List.replicate 32 (1 : UInt8)) [115, 108, 111, 116] 0 (List.replicate 32 (2 : UInt8))), bv ((tagB (List.replicate 32 (1 : UInt8)) [115, 108, 111, 116] 0 (wrapD (List.replicate 32 (1 : UInt8)) [115, 108, 111, 116] 0 (List.replicate 32 (2 : UInt8)))).set 31 (((tagB (List.replicate 32 (1 : UInt8)) [115, 108, 111, 116] 0 (wrapD (List.replicate 32 (1 : UInt8)) [115, 108, 111, 116] 0 (List.replicate 32 (2 : UInt8)))).getD 31 0) ^^^ 1))] : List (List Value)).flatten.toArray from (by first | (simp only [List.flatten_cons, List.flatten_nil, List.append_nil, List.append_assoc]; done) | rfl | simp))
      refine s_call hE rfl Tryd.call16 (unwrap_c (List.replicate 32 (1 : UInt8)) [115, 108, 111, 116] 0 (wrapD (List.replicate 32 (1 : UInt8)) [115, 108, 111, 116] 0 (List.replicate 32 (2 : UInt8))) ((tagB (List.replicate 32 (1 : UInt8)) [115, 108, 111, 116] 0 (wrapD (List.replicate 32 (1 : UInt8)) [115, 108, 111, 116] 0 (List.replicate 32 (2 : UInt8)))).set 31 (((tagB (List.replicate 32 (1 : UInt8)) [115, 108, 111, 116] 0 (wrapD (List.replicate 32 (1 : UInt8)) [115, 108, 111, 116] 0 (List.replicate 32 (2 : UInt8)))).getD 31 0) ^^^ 1)) _ (hM.get 6 rfl) (hM.get 7 rfl) List.length_replicate (wrapD_len (k := (List.replicate 32 (1 : UInt8))) (l := [115, 108, 111, 116]) (n := 0) (x := (List.replicate 32 (2 : UInt8))) (by have hl_ax : (List.replicate 32 (2 : UInt8)).length = 32 := List.length_replicate; first | assumption | (simp; done))) ((List.length_set ..).trans (tagB_len (List.replicate 32 (1 : UInt8)) [115, 108, 111, 116] 0 (wrapD (List.replicate 32 (1 : UInt8)) [115, 108, 111, 116] 0 (List.replicate 32 (2 : UInt8))))) (by have hl_0 : (List.replicate 32 (1 : UInt8)).length = 32 := List.length_replicate; have hl_1 : [115, 108, 111, 116].length = 4 := (by first | (simp; done) | (simp [*]; done) | (simp; omega)); have hl_3d : (wrapD (List.replicate 32 (1 : UInt8)) [115, 108, 111, 116] 0 (List.replicate 32 (2 : UInt8))).length = 32 := (wrapD_len (k := (List.replicate 32 (1 : UInt8))) (l := [115, 108, 111, 116]) (n := 0) (x := (List.replicate 32 (2 : UInt8))) (by have hl_ax : (List.replicate 32 (2 : UInt8)).length = 32 := List.length_replicate; first | assumption | (simp; done))); have hl_3t : ((tagB (List.replicate 32 (1 : UInt8)) [115, 108, 111, 116] 0 (wrapD (List.replicate 32 (1 : UInt8)) [115, 108, 111, 116] 0 (List.replicate 32 (2 : UInt8)))).set 31 (((tagB (List.replicate 32 (1 : UInt8)) [115, 108, 111, 116] 0 (wrapD (List.replicate 32 (1 : UInt8)) [115, 108, 111, 116] 0 (List.replicate 32 (2 : UInt8)))).getD 31 0) ^^^ 1)).length = 32 := ((List.length_set ..).trans (tagB_len (List.replicate 32 (1 : UInt8)) [115, 108, 111, 116] 0 (wrapD (List.replicate 32 (1 : UInt8)) [115, 108, 111, 116] 0 (List.replicate 32 (2 : UInt8))))); first | omega | assumption | (simp; done) | (simp; omega) | decide) (by have hl_0 : (List.replicate 32 (1 : UInt8)).length = 32 := List.length_replicate; have hl_1 : [115, 108, 111, 116].length = 4 := (by first | (simp; done) | (simp [*]; done) | (simp; omega)); have hl_3d : (wrapD (List.replicate 32 (1 : UInt8)) [115, 108, 111, 116] 0 (List.replicate 32 (2 : UInt8))).length = 32 := (wrapD_len (k := (List.replicate 32 (1 : UInt8))) (l := [115, 108, 111, 116]) (n := 0) (x := (List.replicate 32 (2 : UInt8))) (by have hl_ax : (List.replicate 32 (2 : UInt8)).length = 32 := List.length_replicate; first | assumption | (simp; done))); have hl_3t : ((tagB (List.replicate 32 (1 : UInt8)) [115, 108, 111, 116] 0 (wrapD (List.replicate 32 (1 : UInt8)) [115, 108, 111, 116] 0 (List.replicate 32 (2 : UInt8)))).set 31 (((tagB (List.replicate 32 (1 : UInt8)) [115, 108, 111, 116] 0 (wrapD (List.replicate 32 (1 : UInt8)) [115, 108, 111, 116] 0 (List.replicate 32 (2 : UInt8)))).getD 31 0) ^^^ 1)).length = 32 := ((List.length_set ..).trans (tagB_len (List.replicate 32 (1 : UInt8)) [115, 108, 111, 116] 0 (wrapD (List.replicate 32 (1 : UInt8)) [115, 108, 111, 116] 0 (List.replicate 32 (2 : UInt8))))); first | omega | assumption | (simp; done) | (simp; omega) | decide)) rfl ?_
      rintro e w17 ⟨rfl, hN⟩
      refine ⟨_, rfl, trivial, ?_⟩; clear hE a; intro a hE
      replace hM : Mem _ _ w17 [_, _, _, _, _, _, _, _] := hM.call0 hN trivial; clear hN
      refine s_move hE rfl rfl ?_; clear hE a; intro a hE
      refine s_extract hE rfl rfl rfl ?_; clear hE a; intro a hE
      refine s_extract hE rfl rfl rfl ?_; clear hE a; intro a hE
      refine s_alloc [32] hE hM zero23 rfl rfl ?_; clear hE a; intro a b10 w18 hE hM'
      clear hM; have hM := hM'; clear hM'
      refine s_storeSeg 0 hE rfl rfl hM rfl sz23 ((bv_length _).trans (unwK_len (k := (List.replicate 32 (1 : UInt8))) (l := [115, 108, 111, 116]) (n := 0) (d := (wrapD (List.replicate 32 (1 : UInt8)) [115, 108, 111, 116] 0 (List.replicate 32 (2 : UInt8)))) (t := ((tagB (List.replicate 32 (1 : UInt8)) [115, 108, 111, 116] 0 (wrapD (List.replicate 32 (1 : UInt8)) [115, 108, 111, 116] 0 (List.replicate 32 (2 : UInt8)))).set 31 (((tagB (List.replicate 32 (1 : UInt8)) [115, 108, 111, 116] 0 (wrapD (List.replicate 32 (1 : UInt8)) [115, 108, 111, 116] 0 (List.replicate 32 (2 : UInt8)))).getD 31 0) ^^^ 1))) (by have hl_std : (wrapD (List.replicate 32 (1 : UInt8)) [115, 108, 111, 116] 0 (List.replicate 32 (2 : UInt8))).length = 32 := (wrapD_len (k := (List.replicate 32 (1 : UInt8))) (l := [115, 108, 111, 116]) (n := 0) (x := (List.replicate 32 (2 : UInt8))) (by have hl_ax : (List.replicate 32 (2 : UInt8)).length = 32 := List.length_replicate; first | assumption | (simp; done))); first | assumption | (simp; done)))) (bv_one _) rfl ((bv_length _).trans (by first | (simp; done) | (simp [*]; done) | (simp; omega))) rfl (by intro X h; cases h) ?_; intro w19 hM'; clear hM; have hM := hM'; clear hM'
      simp only [List.set_cons_zero, List.set_cons_succ] at hM
      refine s_assign hE rfl rfl ?_; clear hE a; intro a hE
      refine q_nil ?_
      replace hE : Env a 128 [(0, _), (1, _), (2, _), (3, _), (4, _), (5, _), (6, _), (7, _), (8, _), (9, _), (10, _), (11, _), (19, _), (32, _)] := hE.sel [0, 1, 2, 3, 4, 5, 6, 7, 8, 9, 10, 11, 19, 32] rfl
      refine hK16 _ _ ?_
      refine wp_seq_k (fun K17 hK17 => ?_)
      refine wp_plain [false, false, true, true, true, true, false, false, true, true] rfl rfl ?_
      refine s_makeSlice (m := 63) (zc := [bV 0]) hE rfl rfl hM sl42 ⟨.int .u8 0, by kernel_rfl, rfl⟩ rfl rfl (by omega) (by omega) (by decide) rfl ?_; clear hE a; intro a v64 w20 hE hM'; clear hM; have hM := hM'; clear hM'
      replace hM := hM.ownEq (m' := (List.replicate 63 (0 : UInt8)).length) (cs' := bv (List.replicate 63 (0 : UInt8))) (by simp) (by simp [bv])
      obtain ⟨cq1, hq1⟩ := own_rd (hM.get 0 rfl)
      refine s_call hE rfl Tryd.call24 (boxget_a _ (List.replicate 63 (0 : UInt8)) _ _ hq1 (by have hl_ : (List.replicate 63 (0 : UInt8)).length = 63 := (by first | (simp; done) | (simp [*]; done) | (simp; omega)); first | omega | (simp; omega) | decide)) rfl ?_
      rintro e w21 ⟨v65, rfl, hN⟩
      refine ⟨_, rfl, trivial, ?_⟩; clear hE a; intro a hE
      replace hM : Mem _ _ w21 [_, _, _, _, _, _, _, _, _, _, _] := hM.call0 hN ⟨rfl, trivial⟩; clear hN
      refine s_move hE rfl rfl ?_; clear hE a; intro a hE
      refine s_extract hE rfl rfl rfl ?_; clear hE a; intro a hE
      refine s_extract hE rfl rfl rfl ?_; clear hE a; intro a hE
      refine s_extract hE rfl rfl rfl ?_; clear hE a; intro a hE
      refine s_alloc [32, 32] hE hM zero29 rfl rfl ?_; clear hE a; intro a b12 w22 hE hM'
      clear hM; have hM := hM'; clear hM'
      refine s_storeSegs 0 2 (vss := [bv (getBd (List.replicate 63 (0 : UInt8))), bv (getBt (List.replicate 63 (0 : UInt8)))]) hE rfl rfl hM rfl sz29 (by have hl_s0 : (getBd (List.replicate 63 (0 : UInt8))).length = 32 := (getBd_len (List.replicate 63 (0 : UInt8))); have hl_s1 : (getBt (List.replicate 63 (0 : UInt8))).length = 32 := (getBt_len (List.replicate 63 (0 : UInt8)));  simp only [List.map_cons, List.map_nil, bv_length, List.length_cons, List.length_nil, List.take_succ_cons, List.take_zero, List.drop_zero, List.drop_succ_cons, hl_s0, hl_s1]) (by decide) rfl (one_fl ⟨bv_one _, bv_one _, trivial⟩) rfl (by intro X h; cases h) ?_; intro w23 hM'; clear hM; have hM := hM'; clear hM'
      simp only [List.take_zero, List.take_succ_cons, List.drop_zero, List.drop_succ_cons, List.take_nil, List.drop_nil, List.nil_append, List.append_nil, List.cons_append] at hM
      refine s_assign hE rfl rfl ?_; clear hE a; intro a hE
      refine s_assign hE rfl rfl ?_; clear hE a; intro a hE
      refine q_nil ?_
      replace hE : Env a 128 [(0, _), (1, _), (2, _), (3, _), (4, _), (5, _), (6, _), (7, _), (8, _), (9, _), (10, _), (11, _), (13, _), (14, _), (19, _), (32, _)] := hE.sel [0, 1, 2, 3, 4, 5, 6, 7, 8, 9, 10, 11, 13, 14, 19, 32] rfl
      refine hK17 _ _ ?_
      refine wp_seq_k (fun K18 hK18 => ?_)
      refine wp_plain [false, false, true, true, true, true, false, false, true, true] rfl rfl ?_
      refine s_makeSlice (m := 65) (zc := [bV 0]) hE rfl rfl hM sl42 ⟨.int .u8 0, by kernel_rfl, rfl⟩ rfl rfl (by omega) (by omega) (by decide) rfl ?_; clear hE a; intro a v70 w24 hE hM'; clear hM; have hM := hM'; clear hM'
      replace hM := hM.ownEq (m' := (List.replicate 65 (0 : UInt8)).length) (cs' := bv (List.replicate 65 (0 : UInt8))) (by simp) (by simp [bv])
      obtain ⟨cq2, hq2⟩ := own_rd (hM.get 0 rfl)
      refine s_call hE rfl Tryd.call24 (boxget_a _ (List.replicate 65 (0 : UInt8)) _ _ hq2 (by have hl_ : (List.replicate 65 (0 : UInt8)).length = 65 := (by first | (simp; done) | (simp [*]; done) | (simp; omega)); first | omega | (simp; omega) | decide)) rfl ?_
      rintro e w25 ⟨v71, rfl, hN⟩
      refine ⟨_, rfl, trivial, ?_⟩; clear hE a; intro a hE
      replace hM : Mem _ _ w25 [_, _, _, _, _, _, _, _, _, _, _, _, _, _] := hM.call0 hN ⟨rfl, trivial⟩; clear hN
      refine s_move hE rfl rfl ?_; clear hE a; intro a hE
      refine s_extract hE rfl rfl rfl ?_; clear hE a; intro a hE
      refine s_extract hE rfl rfl rfl ?_; clear hE a; intro a hE
      refine s_extract hE rfl rfl rfl ?_; clear hE a; intro a hE
      refine s_alloc [32, 32] hE hM zero29 rfl rfl ?_; clear hE a; intro a b15 w26 hE hM'
      clear hM; have hM := hM'; clear hM'
      refine s_storeSegs 0 2 (vss := [bv (getBd (List.replicate 65 (0 : UInt8))), bv (getBt (List.replicate 65 (0 : UInt8)))]) hE rfl rfl hM rfl sz29 (by have hl_s0 : (getBd (List.replicate 65 (0 : UInt8))).length = 32 := (getBd_len (List.replicate 65 (0 : UInt8))); have hl_s1 : (getBt (List.replicate 65 (0 : UInt8))).length = 32 := (getBt_len (List.replicate 65 (0 : UInt8)));  simp only [List.map_cons, List.map_nil, bv_length, List.length_cons, List.length_nil, List.take_succ_cons, List.take_zero, List.drop_zero, List.drop_succ_cons, hl_s0, hl_s1]) (by decide) rfl (one_fl ⟨bv_one _, bv_one _, trivial⟩) rfl (by intro X h; cases h) ?_; intro w27 hM'; clear hM; have hM := hM'; clear hM'
      simp only [List.take_zero, List.take_succ_cons, List.drop_zero, List.drop_succ_cons, List.take_nil, List.drop_nil, List.nil_append, List.append_nil, List.cons_append] at hM
      refine s_assign hE rfl rfl ?_; clear hE a; intro a hE
      refine s_assign hE rfl rfl ?_; clear hE a; intro a hE
      refine q_nil ?_
      replace hE : Env a 128 [(0, _), (1, _), (2, _), (3, _), (4, _), (5, _), (6, _), (7, _), (8, _), (9, _), (10, _), (11, _), (13, _), (14, _), (16, _), (17, _), (19, _), (32, _)] := hE.sel [0, 1, 2, 3, 4, 5, 6, 7, 8, 9, 10, 11, 13, 14, 16, 17, 19, 32] rfl
      refine hK18 _ _ ?_
      refine wp_seq_k (fun K19 hK19 => ?_)
      refine wp_drawnM hM (by kernel_rfl) (fun _ => False) [(0, true), (1, true), (2, true), (4, true), (5, true), (3, false), (6, false), (7, true), (8, true), (9, true), (10, true), (11, true), (12, true), (13, true), (14, true), (15, true), (16, true), (17, true), (18, true), (19, true), (20, true), (21, true), (22, true), (23, true), (24, true), (25, true), (26, true), (27, true), (28, false), (29, true), (30, true), (31, true), (32, true), (33, true), (34, true), (35, true), (36, true), (37, true), (38, true), (39, true), (40, true), (41, true), (42, true), (43, true), (44, true), (45, true), (46, true), (47, true), (48, true), (49, true), (50, true), (51, false), (52, true), (53, true)] [(3, [(6, 3), (7, 6), (8, 6), (9, 8), (10, 8), (11, 8), (12, 8), (13, 12), (14, 12), (15, 12), (16, 12), (17, 16), (18, 17), (19, 17), (20, 17), (21, 17), (22, 21), (23, 21), (24, 21), (25, 24), (26, 25), (27, 26), (28, 26), (29, 26), (30, 26), (31, 26), (32, 28), (33, 32), (34, 32), (35, 32), (36, 32), (37, 36), (38, 36), (39, 36), (40, 36), (41, 40), (42, 41), (43, 41), (44, 41), (45, 41), (46, 45), (47, 45), (48, 45), (49, 48), (50, 49), (51, 50), (52, 50), (53, 3)]), (6, [(7, 6), (8, 6), (9, 8), (10, 8), (11, 8), (12, 8), (13, 12), (14, 12), (15, 12), (16, 12), (17, 16), (18, 17), (19, 17), (20, 17), (21, 17), (22, 21), (23, 21), (24, 21), (25, 24), (26, 25), (27, 26), (28, 26), (29, 26), (30, 26), (31, 26), (32, 28), (33, 32), (34, 32), (35, 32), (36, 32), (37, 36), (38, 36), (39, 36), (40, 36), (41, 40), (42, 41), (43, 41), (44, 41), (45, 41), (46, 45), (47, 45), (48, 45), (49, 48), (50, 49), (51, 50), (52, 50), (53, 6)]), (28, [(29, 28), (30, 29), (31, 30), (32, 28), (33, 32), (34, 32), (35, 32), (36, 32), (37, 36), (38, 36), (39, 36), (40, 36), (41, 40), (42, 41), (43, 41), (44, 41), (45, 41), (46, 45), (47, 45), (48, 45), (49, 48), (50, 49), (51, 50), (52, 50), (53, 28)]), (51, [(52, 51), (53, 51)])] (by kernel_rfl) rfl ?_
      intro w28 hM' hww28; clear hM; have hM := hM'; clear hM'
      refine s_fieldAddr hE rfl fo29_1 rfl ?_; clear hE a; intro a hE
      refine s_loadN hE rfl (hM.get 10 rfl) row27 rfl (by intro X h; cases h; simp) rfl ?_; clear hE a; intro a hE
      refine s_loadN hE rfl (hM.get 12 rfl) row23 rfl (by intro X h; cases h; simp) rfl ?_; clear hE a; intro a hE
      refine s_fieldAddr hE rfl fo29_0 rfl ?_; clear hE a; intro a hE
      refine s_loadN hE rfl (hM.get 10 rfl) row23 rfl (by intro X h; cases h; simp) rfl ?_; clear hE a; intro a hE
      refine s_call hE rfl Tryd.call18 (sub_c (List.replicate 32 (1 : UInt8)) (str [115, 108, 111, 116, 32, 115, 101, 97, 108, 32, 48]) _ (hM.get 13 rfl) List.length_replicate (by show ([115, 108, 111, 116, 32, 115, 101, 97, 108, 32, 48]).length ≤ _; have hl_ : [115, 108, 111, 116, 32, 115, 101, 97, 108, 32, 48].length = 11 := (by first | (simp; done) | (simp [*]; done) | (simp; omega)); first | omega | (simp; omega) | decide)) rfl ?_
      rintro e w29 ⟨rfl, hN⟩
      refine ⟨_, rfl, hN.sta0 _, ?_⟩; clear hE a; intro a hE
      replace hM : Mem _ _ w29 [_, _, _, _, _, _, _, _, _, _, _, _, _, _, _] := hM.call0 hN trivial; clear hN
      replace hE := hE.cast 78 rfl (show _ = Value.agg (bv (subW (List.replicate 32 (1 : UInt8)) [115, 108, 111, 116, 32, 115, 101, 97, 108, 32, 48])).toArray from rfl)
      refine s_call hE rfl Tryd.call20 (tag10_c (subW (List.replicate 32 (1 : UInt8)) [115, 108, 111, 116, 32, 115, 101, 97, 108, 32, 48]) (wrapD (List.replicate 32 (1 : UInt8)) [115, 108, 111, 116] 0 (List.replicate 32 (2 : UInt8))) _ (hM.get 13 rfl) (subW_length (List.replicate 32 (1 : UInt8)) [115, 108, 111, 116, 32, 115, 101, 97, 108, 32, 48]) (wrapD_len (k := (List.replicate 32 (1 : UInt8))) (l := [115, 108, 111, 116]) (n := 0) (x := (List.replicate 32 (2 : UInt8))) (by have hl_ax : (List.replicate 32 (2 : UInt8)).length = 32 := List.length_replicate; first | assumption | (simp; done)))) rfl ?_
      rintro e w30 ⟨rfl, hN⟩
      refine ⟨_, rfl, hN.sta0 _, ?_⟩; clear hE a; intro a hE
      replace hM : Mem _ _ w30 [_, _, _, _, _, _, _, _, _, _, _, _, _, _, _] := hM.call0 hN trivial; clear hN
      refine s_bin hE rfl rfl (eqa27 (tagB_len (List.replicate 32 (1 : UInt8)) [115, 108, 111, 116] 0 (wrapD (List.replicate 32 (1 : UInt8)) [115, 108, 111, 116] 0 (List.replicate 32 (2 : UInt8)))) (hmacW_length ..)).1 rfl ?_; clear hE a; intro a hE
      refine s_move hE rfl rfl ?_; clear hE a; intro a hE
      replace hE := hE.cast 83 rfl (show _ = Value.bool true from (congrArg Value.bool (decide_eq_true (by rw [seal_slot, tagB]))))
      refine g_yes hE rfl rfl ?_
      refine s_move hE rfl rfl ?_; clear hE a; intro a hE
      refine g_yes hE rfl rfl ?_
      refine s_bin hE rfl rfl bin_eql rfl ?_; clear hE a; intro a hE
      refine s_pickt hE rfl rfl rfl ?_; clear hE a; intro a hE
      refine s_move hE rfl rfl ?_; clear hE a; intro a hE
      replace hE := hE.cast 87 rfl (show _ = Value.bool true from (congrArg Value.bool (by rw [hok.2]; rfl)))
      refine g_yes hE rfl rfl ?_
      refine s_loadN hE rfl (hM.get 8 rfl) row23 rfl (by intro X h; cases h; simp) rfl ?_; clear hE a; intro a hE
      refine g_yes hE rfl rfl ?_
      refine s_loadN hE rfl (hM.get 11 rfl) row23 rfl (by intro X h; cases h; simp) rfl ?_; clear hE a; intro a hE
      refine g_yes hE rfl rfl ?_
      refine s_bin hE rfl rfl (eqa23 (unwK_len (k := (List.replicate 32 (1 : UInt8))) (l := [115, 108, 111, 116]) (n := 0) (d := (wrapD (List.replicate 32 (1 : UInt8)) [115, 108, 111, 116] 0 (List.replicate 32 (2 : UInt8)))) (t := (tagB (List.replicate 32 (1 : UInt8)) [115, 108, 111, 116] 0 (wrapD (List.replicate 32 (1 : UInt8)) [115, 108, 111, 116] 0 (List.replicate 32 (2 : UInt8))))) (by have hl_std : (wrapD (List.replicate 32 (1 : UInt8)) [115, 108, 111, 116] 0 (List.replicate 32 (2 : UInt8))).length = 32 := (wrapD_len (k := (List.replicate 32 (1 : UInt8))) (l := [115, 108, 111, 116]) (n := 0) (x := (List.replicate 32 (2 : UInt8))) (by have hl_ax : (List.replicate 32 (2 : UInt8)).length = 32 := List.length_replicate; first | assumption | (simp; done))); first | assumption | (simp; done))) List.length_replicate).1 rfl ?_; clear hE a; intro a hE
      refine s_pickt hE rfl rfl rfl ?_; clear hE a; intro a hE
      refine s_move hE rfl rfl ?_; clear hE a; intro a hE
      replace hE := hE.cast 92 rfl (show _ = Value.bool true from (congrArg Value.bool (by rw [hok.1]; exact decide_eq_true rfl)))
      refine g_yes hE rfl rfl ?_
      refine s_move hE rfl rfl ?_; clear hE a; intro a hE
      refine g_yes hE rfl rfl ?_
      refine s_bin hE rfl rfl bin_eql rfl ?_; clear hE a; intro a hE
      refine s_pickt hE rfl rfl rfl ?_; clear hE a; intro a hE
      refine s_move hE rfl rfl ?_; clear hE a; intro a hE
      replace hE := hE.cast 96 rfl (show _ = Value.bool true from (congrArg Value.bool (by rw [hn1]; rfl)))
      refine g_yes hE rfl rfl ?_
      refine s_loadN hE rfl (hM.get 6 rfl) row23 rfl (by intro X h; cases h; simp) rfl ?_; clear hE a; intro a hE
      refine g_yes hE rfl rfl ?_
      refine s_build (r := .agg (bv (List.replicate 32 (0 : UInt8))).toArray) _ hE rfl (fun w => by kernel_rfl) rfl ?_; clear hE a; intro a hE
      refine g_yes hE rfl rfl ?_
      refine s_bin hE rfl rfl (eqa23 (unwK_len (k := (List.replicate 32 (1 : UInt8))) (l := [115, 108, 111, 116]) (n := 0) (d := (wrapD (List.replicate 32 (1 : UInt8)) [115, 108, 111, 116] 0 (List.replicate 32 (2 : UInt8)))) (t := ((tagB (List.replicate 32 (1 : UInt8)) [115, 108, 111, 116] 0 (wrapD (List.replicate 32 (1 : UInt8)) [115, 108, 111, 116] 0 (List.replicate 32 (2 : UInt8)))).set 31 (((tagB (List.replicate 32 (1 : UInt8)) [115, 108, 111, 116] 0 (wrapD (List.replicate 32 (1 : UInt8)) [115, 108, 111, 116] 0 (List.replicate 32 (2 : UInt8)))).getD 31 0) ^^^ 1))) (by have hl_std : (wrapD (List.replicate 32 (1 : UInt8)) [115, 108, 111, 116] 0 (List.replicate 32 (2 : UInt8))).length = 32 := (wrapD_len (k := (List.replicate 32 (1 : UInt8))) (l := [115, 108, 111, 116]) (n := 0) (x := (List.replicate 32 (2 : UInt8))) (by have hl_ax : (List.replicate 32 (2 : UInt8)).length = 32 := List.length_replicate; first | assumption | (simp; done))); first | assumption | (simp; done))) (by first | (simp; done) | (simp [*]; done) | (simp; omega))).1 rfl ?_; clear hE a; intro a hE
      refine s_pickt hE rfl rfl rfl ?_; clear hE a; intro a hE
      refine s_move hE rfl rfl ?_; clear hE a; intro a hE
      replace hE := hE.cast 101 rfl (show _ = Value.bool true from (congrArg Value.bool (by rw [hn2]; simp)))
      refine g_yes hE rfl rfl ?_
      refine s_loadN hE rfl (hM.get 10 rfl) row29 rfl (by intro X h; cases h; simp) rfl ?_; clear hE a; intro a hE
      replace hE := hE.cast 102 rfl (show _ = Value.agg ([bv (wrapD (List.replicate 32 (1 : UInt8)) [115, 108, 111, 116] 0 (List.replicate 32 (2 : UInt8))), bv (tagB (List.replicate 32 (1 : UInt8)) [115, 108, 111, 116] 0 (wrapD (List.replicate 32 (1 : UInt8)) [115, 108, 111, 116] 0 (List.replicate 32 (2 : UInt8))))] : List (List Value)).flatten.toArray from (by first | (simp only [List.flatten_cons, List.flatten_nil, List.append_nil, List.append_assoc]; done) | rfl | simp))
      refine g_yes hE rfl rfl ?_
      refine s_call hE rfl Tryd.call23 (boxput_c _ ([] : List UInt8) _ (wrapD (List.replicate 32 (1 : UInt8)) [115, 108, 111, 116] 0 (List.replicate 32 (2 : UInt8))) (tagB (List.replicate 32 (1 : UInt8)) [115, 108, 111, 116] 0 (wrapD (List.replicate 32 (1 : UInt8)) [115, 108, 111, 116] 0 (List.replicate 32 (2 : UInt8)))) _ (rd_nil _) (wrapD_len (k := (List.replicate 32 (1 : UInt8))) (l := [115, 108, 111, 116]) (n := 0) (x := (List.replicate 32 (2 : UInt8))) (by have hl_ax : (List.replicate 32 (2 : UInt8)).length = 32 := List.length_replicate; first | assumption | (simp; done))) (tagB_len (List.replicate 32 (1 : UInt8)) [115, 108, 111, 116] 0 (wrapD (List.replicate 32 (1 : UInt8)) [115, 108, 111, 116] 0 (List.replicate 32 (2 : UInt8)))) (by have hl_0 : ([] : List UInt8).length = 0 := rfl; have hl_1x : (wrapD (List.replicate 32 (1 : UInt8)) [115, 108, 111, 116] 0 (List.replicate 32 (2 : UInt8))).length = 32 := (wrapD_len (k := (List.replicate 32 (1 : UInt8))) (l := [115, 108, 111, 116]) (n := 0) (x := (List.replicate 32 (2 : UInt8))) (by have hl_ax : (List.replicate 32 (2 : UInt8)).length = 32 := List.length_replicate; first | assumption | (simp; done))); have hl_1y : (tagB (List.replicate 32 (1 : UInt8)) [115, 108, 111, 116] 0 (wrapD (List.replicate 32 (1 : UInt8)) [115, 108, 111, 116] 0 (List.replicate 32 (2 : UInt8)))).length = 32 := (tagB_len (List.replicate 32 (1 : UInt8)) [115, 108, 111, 116] 0 (wrapD (List.replicate 32 (1 : UInt8)) [115, 108, 111, 116] 0 (List.replicate 32 (2 : UInt8)))); first | omega | assumption | (simp; done) | (simp; omega) | decide)) rfl ?_
      rintro e w31 ⟨v103, rfl, hN⟩
      refine ⟨_, rfl, hN.sta0 _, ?_⟩; clear hE a; intro a hE
      replace hM : Mem _ _ w31 [_, _, _, _, _, _, _, _, _, _, _, _, _, _, _, _] := hM.call0 hN ⟨rfl, trivial⟩; clear hN
      refine g_yes hE rfl rfl ?_
      refine s_len hE rfl Tryd.underlying42 (own_slice (hM.get 0 rfl)) rfl ?_; clear hE a; intro a hE
      replace hE := hE.cast 104 rfl (show _ = Value.int .i64 ((0 + 64 : Nat) : Int) from (congrArg (fun n : Nat => Value.int .i64 (n : Int)) (by have hl_q : ([] : List UInt8).length = 0 := rfl; have hl_stx : (wrapD (List.replicate 32 (1 : UInt8)) [115, 108, 111, 116] 0 (List.replicate 32 (2 : UInt8))).length = 32 := (wrapD_len (k := (List.replicate 32 (1 : UInt8))) (l := [115, 108, 111, 116]) (n := 0) (x := (List.replicate 32 (2 : UInt8))) (by have hl_ax : (List.replicate 32 (2 : UInt8)).length = 32 := List.length_replicate; first | assumption | (simp; done))); have hl_sty : (tagB (List.replicate 32 (1 : UInt8)) [115, 108, 111, 116] 0 (wrapD (List.replicate 32 (1 : UInt8)) [115, 108, 111, 116] 0 (List.replicate 32 (2 : UInt8)))).length = 32 := (tagB_len (List.replicate 32 (1 : UInt8)) [115, 108, 111, 116] 0 (wrapD (List.replicate 32 (1 : UInt8)) [115, 108, 111, 116] 0 (List.replicate 32 (2 : UInt8)))); rw [List.length_append, List.length_append]; omega)))
      refine g_yes hE rfl rfl ?_
      refine s_bin hE rfl rfl bin_eql rfl ?_; clear hE a; intro a hE
      refine s_pickt hE rfl rfl rfl ?_; clear hE a; intro a hE
      refine s_move hE rfl rfl ?_; clear hE a; intro a hE
      replace hE := hE.cast 107 rfl (show _ = Value.bool true from (congrArg Value.bool (by first | rfl | (simp [getBe]; done) | decide +kernel)))
      refine g_yes hE rfl rfl ?_
      refine s_move hE rfl rfl ?_; clear hE a; intro a hE
      refine g_yes hE rfl rfl ?_
      refine s_bin hE rfl rfl bin_eql rfl ?_; clear hE a; intro a hE
      refine s_pickt hE rfl rfl rfl ?_; clear hE a; intro a hE
      refine s_move hE rfl rfl ?_; clear hE a; intro a hE
      replace hE := hE.cast 111 rfl (show _ = Value.bool true from (congrArg Value.bool (by first | rfl | (simp [getBe]; done) | decide +kernel)))
      refine g_yes hE rfl rfl ?_
      refine s_move hE rfl rfl ?_; clear hE a; intro a hE
      refine g_yes hE rfl rfl ?_
      refine s_len hE rfl Tryd.underlying42 (own_slice (hM.get 5 rfl)) rfl ?_; clear hE a; intro a hE
      replace hE := hE.cast 113 rfl (show _ = Value.int .i64 ((63 - 64 : Nat) : Int) from (congrArg (fun n : Nat => Value.int .i64 (n : Int)) (by have hl_q : (List.replicate 63 (0 : UInt8)).length = 63 := (by first | (simp; done) | (simp [*]; done) | (simp; omega)); first | (simp only [List.length_drop]; omega) | (simp; try omega))))
      refine g_yes hE rfl rfl ?_
      refine s_bin hE rfl rfl bin_eql rfl ?_; clear hE a; intro a hE
      refine s_pickt hE rfl rfl rfl ?_; clear hE a; intro a hE
      refine s_move hE rfl rfl ?_; clear hE a; intro a hE
      replace hE := hE.cast 116 rfl (show _ = Value.bool true from (congrArg Value.bool (by first | rfl | (simp [getBe]; done) | decide +kernel)))
      refine g_yes hE rfl rfl ?_
      refine s_move hE rfl rfl ?_; clear hE a; intro a hE
      refine g_yes hE rfl rfl ?_
      refine s_bin hE rfl rfl bin_eql rfl ?_; clear hE a; intro a hE
      refine s_pickt hE rfl rfl rfl ?_; clear hE a; intro a hE
      refine s_move hE rfl rfl ?_; clear hE a; intro a hE
      replace hE := hE.cast 120 rfl (show _ = Value.bool true from (congrArg Value.bool (by first | rfl | (simp [getBe]; done) | decide +kernel)))
      refine g_yes hE rfl rfl ?_
      refine s_move hE rfl rfl ?_; clear hE a; intro a hE
      refine g_yes hE rfl rfl ?_
      refine s_len hE rfl Tryd.underlying42 (own_slice (hM.get 2 rfl)) rfl ?_; clear hE a; intro a hE
      replace hE := hE.cast 122 rfl (show _ = Value.int .i64 ((65 - 64 : Nat) : Int) from (congrArg (fun n : Nat => Value.int .i64 (n : Int)) (by have hl_q : (List.replicate 65 (0 : UInt8)).length = 65 := (by first | (simp; done) | (simp [*]; done) | (simp; omega)); first | (simp only [List.length_drop]; omega) | (simp; try omega))))
      refine g_yes hE rfl rfl ?_
      refine s_bin hE rfl rfl bin_eql rfl ?_; clear hE a; intro a hE
      refine s_pickt hE rfl rfl rfl ?_; clear hE a; intro a hE
      refine s_move hE rfl rfl ?_; clear hE a; intro a hE
      replace hE := hE.cast 125 rfl (show _ = Value.bool true from (congrArg Value.bool (by first | rfl | (simp [getBe]; done) | decide +kernel)))
      refine g_yes hE rfl rfl ?_
      refine s_call hE rfl Tryd.call17 (works10_c  _ (hM.get 14 rfl) (hM.get 15 rfl)) rfl ?_
      rintro e w32 ⟨rfl, hN⟩
      refine ⟨_, rfl, hN.sta0 _, ?_⟩; clear hE a; intro a hE
      replace hM : Mem _ _ w32 [_, _, _, _, _, _, _, _, _, _, _, _, _, _, _, _] := hM.call0 hN trivial; clear hN
      refine s_pickt hE rfl rfl rfl ?_; clear hE a; intro a hE
      refine s_assign hE rfl rfl ?_; clear hE a; intro a hE
      refine q_nil ?_
      replace hE : Env a 128 [(0, _), (1, _), (2, _), (3, _), (4, _), (5, _), (6, _), (7, _), (9, _), (10, _), (19, _), (32, _)] := hE.sel [0, 1, 2, 3, 4, 5, 6, 7, 9, 10, 19, 32] rfl
      refine hK19 _ _ ?_
      refine wp_ret ?_
      refine f_ret1 hE rfl rfl ?_
      exact ⟨(by first | rfl | (simp; done)), hM.pick [] rfl⟩
set_option maxRecDepth 100000 in
theorem boxKnown_lifted (os : Os) (started : os.Started) (H : Type) (enc : TypeId × Value → H) :
    ReturnsInHanded {} Tryd.checked os 7 .any (fun w args => (Rows.boxKnownSpec.pre enc Tryd.prog Tryd.f7 [] false w args ∧ laidMetH Tryd.prog Rows.boxKnownRow.laid w) ∧ sizedMet enc Tryd.prog Tryd.f7 (OpenSpec.ofChange Rows.boxKnownSpec) false w args) (Rows.boxKnownSpec.post enc Tryd.prog Tryd.f7 false true false false) := by
  refine law_liftedL (C := Tryd.checked) (fn := Tryd.f7) (l := Rows.boxKnownRow.laid) (by kernel_rfl) started (by kernel_rfl) Tryd.func7 rfl (fun ds hl => ?_) rfl Tryd.underlying4 (by kernel_rfl) (of_decide_eq_true (by kernel_rfl)) (by kernel_rfl)
    (ChangeSpec.witness_shaped (enc := enc) (C := Tryd.checked) (os := os) (X := fun w _ => laidMetH Tryd.prog Rows.boxKnownRow.laid w) false (World.laidAll Tryd.prog os Rows.boxKnownRow.laid) #[] 8 (World.laidAll_os _ _ _) (World.shaped_of_ZipB (by kernel_rfl) (by kernel_rfl)) (by kernel_rfl) (by kernel_rfl) (by kernel_rfl) (by rw [MakeChecks.laidMetH_plain _ _ _ (by kernel_rfl)]; exact laidMet_laidAll _ (by kernel_rfl) (by kernel_rfl))) ?_
  · rw [Tryd.params7] at hl
    match ds, hl with
    | [], _ => rfl
  · intro W base args ds ps hval hA hw hL
    have hG := glb_of_laid (P := Tryd.prog) (g := 1) (t := 170) (e := 129) (by kernel_rfl) (by kernel_rfl) Tryd.underlying170 Tryd.underlying129 (by kernel_rfl) (by kernel_rfl) (by kernel_rfl) (show laidMet Tryd.prog (_ :: _) W from (laidMet_tail (laidMet_tail (laidMet_tail hL))))
    have hT : tabP.holds W := tabE_of_laid (P := Tryd.prog) (g := 0) (t := 163) (e := 24) (n := 20) (by kernel_rfl) (by kernel_rfl) Tryd.underlying163 Tryd.underlying24 (by kernel_rfl) (by kernel_rfl) (by kernel_rfl) (show laidMet Tryd.prog (_ :: _) W from (laidMet_tail (laidMet_tail hL)))
    rw [Tryd.params7] at hA hval hw
    obtain ⟨hargs, rfl, rfl⟩ := trodAll_nil hA
    obtain rfl : args = #[] := by cases args; simp_all
    exact boxKnown_c W hG hT

/-- The row's statement. -/
theorem boxKnown_row : Rows.BoxKnownSaid :=
  OpenClaim.holds_of_wide 7 Tryd.f7 rfl rfl rfl rfl rfl rfl rfl ⟨rfl, rfl, rfl, rfl, rfl⟩ rfl rfl rfl rfl rfl (by kernel_rfl) Tryd.func7 (by kernel_rfl)
    (of_decide_eq_true (by kernel_rfl)) (by unfold Func.isWrapper; first | (rw [if_pos (by decide +kernel)]; kernel_rfl) | (rw [if_neg (by decide +kernel)]; exact ⟨rfl, rfl⟩))
    (fun os started H enc _ => boxKnown_lifted os started H enc)

/-- The statement: the row, its listed variable tied to the program's text. -/
theorem boxKnown_holds : Rows.BoxKnownCardSaid :=
  Claim7.holds_tied_plain_at .later [] [.data, .data, .data, .data] true (true, "260fdf816069b3bf8e1fff31512b0488977d0f5c26e19155cc996da54a266071") false
    boxKnown_row (fun _ h => by cases h) (by kernel_rfl) (fun _ h => by cases h) boxKnown_row_tie rfl ⟨rfl, rfl⟩ (by kernel_rfl) rfl
    (fun f fn hf hfn => by
      obtain rfl : f = 7 := Option.some.inj ((show Tryd.prog.funcNamed "casemate/casematelaw10.BoxKnown" = some 7 by kernel_rfl).symm.trans hf) |>.symm
      obtain rfl : fn = Tryd.f7 := (Option.some.inj (Tryd.func7.symm.trans hfn)).symm
      exact ⟨by kernel_rfl, fun j t ht => by
        rw [Tryd.params7] at ht
        simp at ht⟩)
    (by kernel_rfl)
#print axioms boxKnown_holds
end Go.Proofs.YtniekapfoaiieaaDoor
