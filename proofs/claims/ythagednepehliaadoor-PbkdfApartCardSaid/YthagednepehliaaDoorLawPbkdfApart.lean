/- PbkdfApart of casematelaw05 returns true for whatever two texts. No condition. -/
import Derived.Test.YthagednepehliaaDoorLp
import Derived.Test.YthagednepehliaaDoorTie
import Derived.Test.YthagednepehliaaDoorCards
namespace Go.Proofs.YthagednepehliaaDoor
open Go Go.Kx
open Go.ChangeShapes Go.WideShapes Go.ChangeAt Go.RowKit
theorem eqa38 : ∀ {a b : List UInt8}, a.length = 64 → b.length = 64 → Bin Tryd.prog .eql 38 (.agg (bv a).toArray) (.agg (bv b).toArray) (.bool (decide (a = b))) ∧ Bin Tryd.prog .neq 38 (.agg (bv a).toArray) (.agg (bv b).toArray) (.bool (!decide (a = b))) := fun ha hb => bins_arr8 Tryd.underlying38 (by kernel_rfl) Tryd.underlying5 (by kernel_rfl) (by kernel_rfl) ha hb
theorem phr_c (s : ByteArray) (w : World) : Calls Tryd.prog 13 #[.string s] w fun e w' => ∃ v', e = .returned (.tuple #[v', .int .i64 (errP s.data.toList : Int)]) ∧ Mem w [] w' [own v' 1 (phrP s.data.toList).length (bv (phrP s.data.toList))] := by
  have hsz : s.data.toList.length = s.size := rfl
  by_cases h : s.size < 1 ∨ 48 < s.size
  · refine Calls.mono (pass_bad s w h) ?_
    rintro e w' ⟨rfl, hM⟩
    have e1 : errP s.data.toList = 2 := by unfold errP; rw [if_pos (by omega)]
    have e2 : phrP s.data.toList = [] := by unfold phrP; rw [if_pos (by omega)]
    rw [e1, e2]
    exact ⟨_, rfl, hM.addNil 1⟩
  · refine Calls.mono (pass_ok s w (by omega) (by omega)) ?_
    rintro e w' ⟨v', rfl, hM⟩
    have e1 : errP s.data.toList = 0 := by unfold errP; rw [if_neg (by omega)]
    have e2 : phrP s.data.toList = phrW s.data.toList := by unfold phrP; rw [if_neg (by omega)]
    rw [e1, e2]
    exact ⟨_, rfl, hM⟩
theorem padded_c (v : Value) (bs : List UInt8) (c : Nat) (w : World) (hr : (rd v 1 bs.length c (bv bs)).holds w) (hb : bs.length ≤ 1000) : Calls Tryd.prog 22 #[v] w fun e w' => e = .returned (.agg (bv (padZ bs)).toArray) ∧ Mem w [] w' [] := by
  have hM := Mem.startR1 hr rfl
  refine f_enter 22 Tryd.func22 rfl rfl rfl ?_
  intro a hE
  replace hE : Env a 22 [(0, _)] := hE
  refine wp_seq_k (fun K1 hK1 => ?_)
  refine wp_plain [false] rfl rfl ?_
  refine s_alloc [64] hE hM zero38 rfl rfl ?_; clear hE a; intro a b2 w1 hE hM'
  clear hM; have hM := hM'; clear hM'
  refine q_nil ?_
  refine hK1 _ _ ?_
  refine wp_seq_k (fun K2 hK2 => ?_)
  refine wp_plain [false] rfl rfl ?_
  refine s_alloc [64] hE hM zero38 rfl rfl ?_; clear hE a; intro a b3 w2 hE hM'
  clear hM; have hM := hM'; clear hM'
  refine q_nil ?_
  refine hK2 _ _ ?_
  refine wp_seq_k (fun K3 hK3 => ?_)
  refine wp_seq_k (fun K4 hK4 => ?_)
  refine wp_plain [true] rfl rfl ?_
  refine s_assign hE rfl rfl ?_; clear hE a; intro a hE
  refine q_nil ?_
  refine hK4 _ _ ?_
  refine wp_block ?_
  refine c_loop (fun (i : Nat) a w' => i ≤ bs.length ∧ i ≤ 64 ∧ Env a 22 [(0, v), (2, .pointer (some ⟨b2, 0, none⟩)), (3, .pointer (some ⟨b3, 0, none⟩)), (4, .int .i64 (i : Int))] ∧ Mem w [] w' [blk b3 [bv (bs.take i ++ List.replicate (64 - i) 0)] [64] 38, blk b2 [bv (List.replicate 64 0)] [64] 38, rd v 1 bs.length c (bv bs)]) (fun i => 64 - i) 0 ⟨Nat.zero_le _, Nat.zero_le _, hE.sel [0, 2, 3, 4] rfl, by simpa using hM⟩ ?_
  clear hE hM a; rintro i a w3 ⟨hi, hi2, hE, hM⟩
  refine wp_seq_k (fun K5 hK5 => ?_)
  refine wp_seq_k (fun K6 hK6 => ?_)
  refine wp_plain [true, true, true, true, true, true, true, true] rfl rfl ?_
  refine s_move hE rfl rfl ?_; clear hE a; intro a hE
  refine s_move hE rfl rfl ?_; clear hE a; intro a hE
  refine s_len hE rfl Tryd.underlying22 (rd_slice (hM.get 2 rfl)) rfl ?_; clear hE a; intro a hE
  refine s_bin hE rfl rfl bin_lss rfl ?_; clear hE a; intro a hE
  refine s_move hE rfl rfl ?_; clear hE a; intro a hE
  refine hE.split 9 rfl (fun hb9 hE' => ?_) (fun hb9 hE' => ?_)
  · replace hE := hE'; clear hE'
    replace hb9 := of_decide_eq_true hb9
    refine g_yes hE rfl rfl ?_
    refine s_move hE rfl rfl ?_; clear hE a; intro a hE
    refine g_yes hE rfl rfl ?_
    refine s_bin hE rfl rfl bin_lss rfl ?_; clear hE a; intro a hE
    refine s_pickt hE rfl rfl rfl ?_; clear hE a; intro a hE
    refine q_nil ?_
    replace hE : Env a 22 [(0, _), (2, _), (3, _), (4, _), (12, _)] := hE.sel [0, 2, 3, 4, 12] rfl
    refine hK6 _ _ ?_
    refine hE.split 12 rfl (fun hb12 hE' => ?_) (fun hb12 hE' => ?_)
    · replace hE := hE'; clear hE'
      replace hb12 := of_decide_eq_true hb12
      refine wp_cond_true (hE.eval rfl) ?_
      refine wp_skip ?_
      refine hK5 _ _ ?_
      refine wp_seq_k (fun K7 hK7 => ?_)
      refine wp_block ?_
      refine wp_plain [true, true, true, true, true, true, false] rfl rfl ?_
      refine s_move hE rfl rfl ?_; clear hE a; intro a hE
      refine s_move hE rfl rfl ?_; clear hE a; intro a hE
      refine s_move hE rfl rfl ?_; clear hE a; intro a hE
      refine s_indexRd (j := i) hE rfl (hM.get 2 rfl) rfl slt22 (by first | rfl | omega) (by first | omega | (simp; omega) | decide) rfl ?_; clear hE a; intro a p18 hE hc18 hp18
      rw [bv_elem (by omega)] at hc18
      refine s_loadAt1 hE rfl hc18 one5 (by intro X h; cases h) rfl ?_; clear hE a; intro a hE
      refine s_indexArr (j := i) hE rfl rfl arr38 (by first | rfl | omega) (by first | omega | decide) rfl ?_; clear hE a; intro a hE
      refine s_storeIdx (j := i) hE rfl (by omega) rfl hM rfl rfl sz5 (by simp; omega) (by intro X h; cases h) ?_; intro w4 hM'; clear hM; have hM := hM'; clear hM'
      first | rw [bv_set'] at hM | rw [bv_setI] at hM
      refine q_nil ?_
      replace hE : Env a 22 [(0, _), (2, _), (3, _), (4, _), (12, _)] := hE.sel [0, 2, 3, 4, 12] rfl
      refine q_block_n ?_
      refine hK7 _ _ ?_
      refine wp_plain [true, true, true] rfl rfl ?_
      refine s_move hE rfl rfl ?_; clear hE a; intro a hE
      refine s_bin hE rfl rfl (bin_add (wrap_i64 (by omega) (by omega))) rfl ?_; clear hE a; intro a hE
      refine s_assign hE rfl rfl ?_; clear hE a; intro a hE
      refine q_nil ?_
      replace hE : Env a 22 [(0, _), (2, _), (3, _), (4, _), (12, _)] := hE.sel [0, 2, 3, 4, 12] rfl
      replace hE := hE.cast 4 rfl (show _ = Value.int .i64 ((i + 1 : Nat) : Int) from congrArg _ (by omega))
      rw [padZ_set (by omega) (by omega)] at hM
      exact ⟨i + 1, ⟨by omega, by omega, hE.sel [0, 2, 3, 4] rfl, hM⟩, by omega⟩
    · replace hE := hE'; clear hE'
      replace hb12 := of_decide_eq_false hb12
      rw [padZ_end hi hi2 (by omega)] at hM
      refine wp_cond_false (hE.eval rfl) ?_
      refine wp_exit ?_
      refine q_then_e ?_
      refine q_then_e ?_
      refine q_block_x ?_
      refine hK3 _ _ ?_
      refine wp_seq_k (fun K7 hK7 => ?_)
      refine wp_plain [true, false] rfl rfl ?_
      refine s_loadN hE rfl (hM.get 0 rfl) row38 rfl (by intro X h; cases h) rfl ?_; clear hE a; intro a hE
      replace hM : Mem _ _ w3 [_, _, _] := hM.pick [1, 0, 2] rfl
      refine s_storeSeg 0 hE rfl rfl hM rfl sz38 (by simp [padZ_length]) (bv_one _) rfl (by simp) rfl (by intro X h; cases h) ?_; intro w4 hM'; clear hM; have hM := hM'; clear hM'
      simp only [List.set_cons_zero, List.set_cons_succ] at hM
      refine q_nil ?_
      replace hE : Env a 22 [(0, _), (2, _), (3, _), (4, _), (12, _)] := hE.sel [0, 2, 3, 4, 12] rfl
      refine hK7 _ _ ?_
      refine wp_ret ?_
      refine f_ret1 hE rfl (res_cellN rfl (hM.get 0 rfl) row38 rfl) ?_
      exact ⟨rfl, hM.nil⟩
  · replace hE := hE'; clear hE'
    replace hb9 := of_decide_eq_false hb9
    rw [padZ_end hi hi2 (by omega)] at hM
    refine g_no (b := false) hE rfl rfl rfl ?_; clear hE a; intro a hE
    refine g_no (b := false) hE rfl rfl rfl ?_; clear hE a; intro a hE
    refine s_pickf hE rfl rfl rfl ?_; clear hE a; intro a hE
    refine q_nil ?_
    replace hE : Env a 22 [(0, _), (2, _), (3, _), (4, _), (12, _)] := hE.sel [0, 2, 3, 4, 12] rfl
    refine hK6 _ _ ?_
    refine wp_cond_false (hE.eval rfl) ?_
    refine wp_exit ?_
    refine q_then_e ?_
    refine q_then_e ?_
    refine q_block_x ?_
    refine hK3 _ _ ?_
    refine wp_seq_k (fun K7 hK7 => ?_)
    refine wp_plain [true, false] rfl rfl ?_
    refine s_loadN hE rfl (hM.get 0 rfl) row38 rfl (by intro X h; cases h) rfl ?_; clear hE a; intro a hE
    replace hM : Mem _ _ w3 [_, _, _] := hM.pick [1, 0, 2] rfl
    refine s_storeSeg 0 hE rfl rfl hM rfl sz38 (by simp [padZ_length]) (bv_one _) rfl (by simp) rfl (by intro X h; cases h) ?_; intro w4 hM'; clear hM; have hM := hM'; clear hM'
    simp only [List.set_cons_zero, List.set_cons_succ] at hM
    refine q_nil ?_
    replace hE : Env a 22 [(0, _), (2, _), (3, _), (4, _), (12, _)] := hE.sel [0, 2, 3, 4, 12] rfl
    refine hK7 _ _ ?_
    refine wp_ret ?_
    refine f_ret1 hE rfl (res_cellN rfl (hM.get 0 rfl) row38 rfl) ?_
    exact ⟨rfl, hM.nil⟩
theorem pbkdfApart_c (s t : ByteArray) (w : World) (hG : (glb 0).holds w) : Calls Tryd.prog 6 #[.string s, .string t] w fun e w' => e = .returned (.bool true) ∧ Mem w [] w' [] := by
  have hM := Mem.startR1 hG rfl
  refine f_enter 48 Tryd.func6 rfl rfl rfl ?_
  intro a hE
  replace hE : Env a 48 [(0, _), (1, _)] := hE
  refine wp_seq_k (fun K1 hK1 => ?_)
  refine wp_plain [true] rfl rfl ?_
  refine s_assign hE rfl rfl ?_; clear hE a; intro a hE
  refine q_nil ?_
  refine hK1 _ _ ?_
  refine wp_seq_k (fun K2 hK2 => ?_)
  refine wp_plain [true, false, true, true, true, true, true] rfl rfl ?_
  refine s_move hE rfl rfl ?_; clear hE a; intro a hE
  refine s_call hE rfl Tryd.call13 (phr_c s _) rfl ?_
  rintro e w1 ⟨vp, rfl, hN⟩
  refine ⟨_, rfl, trivial, ?_⟩; clear hE a; intro a hE
  replace hM : Mem _ _ w1 [_, _] := hM.call0 hN ⟨rfl, trivial⟩; clear hN
  refine s_move hE rfl rfl ?_; clear hE a; intro a hE
  refine s_extract hE rfl rfl rfl ?_; clear hE a; intro a hE
  refine s_extract hE rfl rfl rfl ?_; clear hE a; intro a hE
  refine s_assign hE rfl rfl ?_; clear hE a; intro a hE
  refine s_assign hE rfl rfl ?_; clear hE a; intro a hE
  refine q_nil ?_
  replace hE : Env a 48 [(0, _), (1, _), (4, _), (5, _), (6, _)] := hE.sel [0, 1, 4, 5, 6] rfl
  refine hK2 _ _ ?_
  refine wp_seq_k (fun K3 hK3 => ?_)
  refine wp_plain [true, false, true, true, true, true, true] rfl rfl ?_
  refine s_move hE rfl rfl ?_; clear hE a; intro a hE
  refine s_call hE rfl Tryd.call13 (phr_c t _) rfl ?_
  rintro e w2 ⟨vq, rfl, hN⟩
  refine ⟨_, rfl, trivial, ?_⟩; clear hE a; intro a hE
  replace hM : Mem _ _ w2 [_, _, _] := hM.call0 hN ⟨rfl, trivial⟩; clear hN
  refine s_move hE rfl rfl ?_; clear hE a; intro a hE
  refine s_extract hE rfl rfl rfl ?_; clear hE a; intro a hE
  refine s_extract hE rfl rfl rfl ?_; clear hE a; intro a hE
  refine s_assign hE rfl rfl ?_; clear hE a; intro a hE
  refine s_assign hE rfl rfl ?_; clear hE a; intro a hE
  refine q_nil ?_
  replace hE : Env a 48 [(0, _), (1, _), (4, _), (5, _), (6, _), (7, _), (8, _)] := hE.sel [0, 1, 4, 5, 6, 7, 8] rfl
  refine hK3 _ _ ?_
  refine wp_seq_k (fun K4 hK4 => ?_)
  refine wp_seq_k (fun K5 hK5 => ?_)
  refine wp_plain [true, true, true, true, true, true] rfl rfl ?_
  refine s_move hE rfl rfl ?_; clear hE a; intro a hE
  refine s_bin hE rfl rfl bin_neq rfl ?_; clear hE a; intro a hE
  refine s_move hE rfl rfl ?_; clear hE a; intro a hE
  refine hE.split 21 rfl (fun hb21 hE' => ?_) (fun hb21 hE' => ?_)
  · replace hE := hE'; clear hE'
    replace hb21 : errP s.data.toList ≠ 0 := by simp at hb21; omega
    refine g_no (b := true) hE rfl rfl rfl ?_; clear hE a; intro a hE
    refine g_no (b := true) hE rfl rfl rfl ?_; clear hE a; intro a hE
    refine s_pickt hE rfl rfl rfl ?_; clear hE a; intro a hE
    refine q_nil ?_
    replace hE : Env a 48 [(0, _), (1, _), (4, _), (5, _), (7, _), (24, _)] := hE.sel [0, 1, 4, 5, 7, 24] rfl
    refine hK5 _ _ ?_
    refine wp_cond_true (hE.eval rfl) ?_
    refine wp_seq_k (fun K6 hK6 => ?_)
    refine wp_plain [false, true] rfl rfl ?_
    refine s_call hE rfl Tryd.call15 (awake_c _ (hM.get 2 rfl)) rfl ?_
    rintro e w3 ⟨rfl, hN⟩
    refine ⟨_, rfl, trivial, ?_⟩; clear hE a; intro a hE
    replace hM : Mem _ _ w3 [_, _, _] := hM.call0 hN trivial; clear hN
    refine s_assign hE rfl rfl ?_; clear hE a; intro a hE
    refine q_nil ?_
    replace hE : Env a 48 [(0, _), (1, _), (4, _), (5, _), (7, _), (24, _)] := hE.sel [0, 1, 4, 5, 7, 24] rfl
    refine hK6 _ _ ?_
    refine wp_ret ?_
    refine q_then_r ?_
    refine f_ret1 hE rfl rfl ?_
    exact ⟨rfl, hM.nil⟩
  · replace hE := hE'; clear hE'
    replace hb21 : errP s.data.toList = 0 := by simp at hb21; omega
    refine g_yes hE rfl rfl ?_
    refine s_move hE rfl rfl ?_; clear hE a; intro a hE
    refine g_yes hE rfl rfl ?_
    refine s_bin hE rfl rfl bin_neq rfl ?_; clear hE a; intro a hE
    refine s_pickf hE rfl rfl rfl ?_; clear hE a; intro a hE
    refine q_nil ?_
    replace hE : Env a 48 [(0, _), (1, _), (4, _), (5, _), (7, _), (24, _)] := hE.sel [0, 1, 4, 5, 7, 24] rfl
    refine hK5 _ _ ?_
    refine hE.split 24 rfl (fun hb24 hE' => ?_) (fun hb24 hE' => ?_)
    · replace hE := hE'; clear hE'
      replace hb24 : errP t.data.toList ≠ 0 := by simp at hb24; omega
      refine wp_cond_true (hE.eval rfl) ?_
      refine wp_seq_k (fun K6 hK6 => ?_)
      refine wp_plain [false, true] rfl rfl ?_
      refine s_call hE rfl Tryd.call15 (awake_c _ (hM.get 2 rfl)) rfl ?_
      rintro e w3 ⟨rfl, hN⟩
      refine ⟨_, rfl, trivial, ?_⟩; clear hE a; intro a hE
      replace hM : Mem _ _ w3 [_, _, _] := hM.call0 hN trivial; clear hN
      refine s_assign hE rfl rfl ?_; clear hE a; intro a hE
      refine q_nil ?_
      replace hE : Env a 48 [(0, _), (1, _), (4, _), (5, _), (7, _), (24, _)] := hE.sel [0, 1, 4, 5, 7, 24] rfl
      refine hK6 _ _ ?_
      refine wp_ret ?_
      refine q_then_r ?_
      refine f_ret1 hE rfl rfl ?_
      exact ⟨rfl, hM.nil⟩
    · replace hE := hE'; clear hE'
      replace hb24 : errP t.data.toList = 0 := by simp at hb24; omega
      have hs48 : ¬ (s.data.toList.length < 1 ∨ 48 < s.data.toList.length) := fun h => by rw [errP, if_pos h] at hb21; cases hb21
      have ht48 : ¬ (t.data.toList.length < 1 ∨ 48 < t.data.toList.length) := fun h => by rw [errP, if_pos h] at hb24; cases hb24
      have es : phrP s.data.toList = phrW s.data.toList := by rw [phrP, if_neg hs48]
      have et : phrP t.data.toList = phrW t.data.toList := by rw [phrP, if_neg ht48]
      have ls := phrP_len s.data.toList
      have lt := phrP_len t.data.toList
      refine wp_cond_false (hE.eval rfl) ?_
      refine wp_skip ?_
      refine hK4 _ _ ?_
      refine wp_seq_k (fun K6 hK6 => ?_)
      refine wp_plain [true, true, true, true, true, true, true, true, true, true, false, true, false, true, true, true, true, true, true, true, false, true, true] rfl rfl ?_
      refine s_move hE rfl rfl ?_; clear hE a; intro a hE
      refine s_len hE rfl Tryd.underlying22 (own_slice (hM.get 1 rfl)) rfl ?_; clear hE a; intro a hE
      refine s_bin hE rfl rfl bin_lss rfl ?_; clear hE a; intro a hE
      refine s_move hE rfl rfl ?_; clear hE a; intro a hE
      replace hE := hE.cast 29 rfl (show _ = Value.bool true from (congrArg Value.bool (decide_eq_true (by omega))))
      refine g_yes hE rfl rfl ?_
      refine s_move hE rfl rfl ?_; clear hE a; intro a hE
      refine g_yes hE rfl rfl ?_
      refine s_len hE rfl Tryd.underlying22 (own_slice (hM.get 0 rfl)) rfl ?_; clear hE a; intro a hE
      refine g_yes hE rfl rfl ?_
      refine s_bin hE rfl rfl bin_lss rfl ?_; clear hE a; intro a hE
      refine s_pickt hE rfl rfl rfl ?_; clear hE a; intro a hE
      refine s_move hE rfl rfl ?_; clear hE a; intro a hE
      replace hE := hE.cast 34 rfl (show _ = Value.bool true from (congrArg Value.bool (decide_eq_true (by omega))))
      refine g_yes hE rfl rfl ?_
      refine s_move hE rfl rfl ?_; clear hE a; intro a hE
      refine g_yes hE rfl rfl ?_
      obtain ⟨c36, h36⟩ := own_rd (hM.get 1 rfl)
      refine s_call hE rfl Tryd.call22 (padded_c _ (phrP s.data.toList) _ _ h36 (by have := phrP_len s.data.toList; omega)) rfl ?_
      rintro e w3 ⟨rfl, hN⟩
      refine ⟨_, rfl, trivial, ?_⟩; clear hE a; intro a hE
      replace hM : Mem _ _ w3 [_, _, _] := hM.call0 hN trivial; clear hN
      refine g_yes hE rfl rfl ?_
      refine s_move hE rfl rfl ?_; clear hE a; intro a hE
      refine g_yes hE rfl rfl ?_
      obtain ⟨c38, h38⟩ := own_rd (hM.get 0 rfl)
      refine s_call hE rfl Tryd.call22 (padded_c _ (phrP t.data.toList) _ _ h38 (by have := phrP_len t.data.toList; omega)) rfl ?_
      rintro e w4 ⟨rfl, hN⟩
      refine ⟨_, rfl, trivial, ?_⟩; clear hE a; intro a hE
      replace hM : Mem _ _ w4 [_, _, _] := hM.call0 hN trivial; clear hN
      refine g_yes hE rfl rfl ?_
      refine s_bin hE rfl rfl (eqa38 (padZ_length _) (padZ_length _)).1 rfl ?_; clear hE a; intro a hE
      refine g_yes hE rfl rfl ?_
      refine s_move hE rfl rfl ?_; clear hE a; intro a hE
      refine g_yes hE rfl rfl ?_
      refine s_move hE rfl rfl ?_; clear hE a; intro a hE
      refine g_yes hE rfl rfl ?_
      refine s_bin hE rfl rfl bins_str.1 rfl ?_; clear hE a; intro a hE
      refine g_yes hE rfl rfl ?_
      refine s_bin hE rfl rfl (bins_bool Tryd.underlying4).1 rfl ?_; clear hE a; intro a hE
      refine s_pickt hE rfl rfl rfl ?_; clear hE a; intro a hE
      refine s_move hE rfl rfl ?_; clear hE a; intro a hE
      replace hE := hE.cast 45 rfl (show _ = Value.bool true from (congrArg Value.bool (by rw [es, et]; have := phr_apart (s := s.data.toList) (t := t.data.toList) (by omega) (by omega); by_cases h : s.data.toList = t.data.toList <;> simp [h, this])))
      refine g_yes hE rfl rfl ?_
      refine s_call hE rfl Tryd.call15 (awake_c _ (hM.get 2 rfl)) rfl ?_
      rintro e w5 ⟨rfl, hN⟩
      refine ⟨_, rfl, trivial, ?_⟩; clear hE a; intro a hE
      replace hM : Mem _ _ w5 [_, _, _] := hM.call0 hN trivial; clear hN
      refine s_pickt hE rfl rfl rfl ?_; clear hE a; intro a hE
      refine s_assign hE rfl rfl ?_; clear hE a; intro a hE
      refine q_nil ?_
      replace hE : Env a 48 [(0, _), (1, _), (4, _), (24, _)] := hE.sel [0, 1, 4, 24] rfl
      refine hK6 _ _ ?_
      refine wp_ret ?_
      refine f_ret1 hE rfl rfl ?_
      exact ⟨rfl, hM.nil⟩
set_option maxRecDepth 100000 in
theorem pbkdfApart_lifted (os : Os) (started : os.Started) (H : Type) (enc : TypeId × Value → H) :
    ReturnsInHanded {} Tryd.checked os 6 .any (fun w args => (Rows.pbkdfApartSpec.pre enc Tryd.prog Tryd.f6 [] false w args ∧ laidMetH Tryd.prog Rows.pbkdfApartRow.laid w) ∧ sizedMet enc Tryd.prog Tryd.f6 (OpenSpec.ofChange Rows.pbkdfApartSpec) false w args) (Rows.pbkdfApartSpec.post enc Tryd.prog Tryd.f6 false true false false) := by
  refine law_liftedL (C := Tryd.checked) (fn := Tryd.f6) (l := Rows.pbkdfApartRow.laid) (by kernel_rfl) started (by kernel_rfl) Tryd.func6 rfl (fun ds hl => ?_) rfl Tryd.underlying4 (by kernel_rfl) (of_decide_eq_true (by kernel_rfl)) (by kernel_rfl)
    (ChangeSpec.witness_shaped (enc := enc) (C := Tryd.checked) (os := os) (X := fun w _ => laidMetH Tryd.prog Rows.pbkdfApartRow.laid w) false (World.laidAll Tryd.prog os Rows.pbkdfApartRow.laid) #[.string .empty, .string .empty] 8 (World.laidAll_os _ _ _) (World.shaped_of_ZipB (by kernel_rfl) (by kernel_rfl)) (by kernel_rfl) (by kernel_rfl) (by kernel_rfl) (by rw [MakeChecks.laidMetH_plain _ _ _ (by kernel_rfl)]; exact laidMet_laidAll _ (by kernel_rfl) (by kernel_rfl))) ?_
  · rw [Tryd.params6] at hl
    match ds, hl with
    | [_, _], _ => rfl
  · intro W base args ds ps hval hA hw hL
    have hG := glb_of_laid (P := Tryd.prog) (g := 0) (t := 98) (e := 74) (by kernel_rfl) (by kernel_rfl) Tryd.underlying98 Tryd.underlying74 (by kernel_rfl) (by kernel_rfl) (by kernel_rfl) (show laidMet Tryd.prog (_ :: _) W from hL)
    rw [Tryd.params6] at hA hval hw
    obtain ⟨v0, vs0, d0, ds0, p0, q0, hargs, rfl, rfl, h0, r0⟩ := trodAll_cons hA
    obtain ⟨v1, vs1, d1, ds1, p1, q1, rfl, rfl, rfl, h1, r1⟩ := trodAll_cons r0
    obtain ⟨rfl, rfl, rfl⟩ := trodAll_nil r1
    obtain rfl : args = #[v0, v1] := by cases args; simp_all
    obtain ⟨s0, rfl, hs0⟩ := arg_string Tryd.underlying9 (hval 0 9 v0 rfl rfl) h0 (fun m hm => hw m (by simp only [DataW.weightsEach, List.mem_append]; exact .inl hm))
    obtain ⟨s1, rfl, hs1⟩ := arg_string Tryd.underlying9 (hval 1 9 v1 rfl rfl) h1 (fun m hm => hw m (by simp only [DataW.weightsEach, List.mem_append]; exact .inr (.inl hm)))
    exact pbkdfApart_c s0 s1 W hG

/-- The row's statement. -/
theorem pbkdfApart_row : Rows.PbkdfApartSaid :=
  OpenClaim.holds_of_wide 6 Tryd.f6 rfl rfl rfl rfl rfl rfl rfl ⟨rfl, rfl, rfl, rfl, rfl⟩ rfl rfl rfl rfl rfl (by kernel_rfl) Tryd.func6 (by kernel_rfl)
    (of_decide_eq_true (by kernel_rfl)) (by unfold Func.isWrapper; first | (rw [if_pos (by decide +kernel)]; kernel_rfl) | (rw [if_neg (by decide +kernel)]; exact ⟨rfl, rfl⟩))
    (fun os started H enc _ => pbkdfApart_lifted os started H enc)

/-- The statement: the row, its listed variable tied to the program's text. -/
theorem pbkdfApart_holds : Rows.PbkdfApartCardSaid :=
  Claim7.holds_tied_plain_at .later [] [.data] true (true, "6fc7720c1af2613af465590a04043e064699da455281c70e9b23793a063f4041") false
    pbkdfApart_row (fun _ h => by cases h) (by kernel_rfl) (fun _ h => by cases h) pbkdfApart_row_tie rfl ⟨rfl, rfl⟩ (by kernel_rfl) rfl
    (fun f fn hf hfn => by
      obtain rfl : f = 6 := Option.some.inj ((show Tryd.prog.funcNamed "casemate/casematelaw05.PbkdfApart" = some 6 by kernel_rfl).symm.trans hf) |>.symm
      obtain rfl : fn = Tryd.f6 := (Option.some.inj (Tryd.func6.symm.trans hfn)).symm
      exact ⟨by kernel_rfl, fun j t ht => by
        rw [Tryd.params6] at ht
        have h : t ∈ [9, 9] := by
          rcases j with _ | _ | j
          · simp at ht; simp [ht]
          · simp at ht; simp [ht]
          · simp at ht
        simp only [List.mem_cons, List.not_mem_nil, or_false] at h
        rcases h with rfl | rfl
        · exact (show Tryd.prog.wantsStandIn 9 = false by kernel_rfl)
        · exact (show Tryd.prog.wantsStandIn 9 = false by kernel_rfl)⟩)
    (by kernel_rfl)
#print axioms pbkdfApart_holds
end Go.Proofs.YthagednepehliaaDoor
