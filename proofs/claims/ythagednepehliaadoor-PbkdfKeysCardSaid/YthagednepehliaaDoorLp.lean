/- Walks of functions of the given program that the claim reaches. -/
import Derived.Test.YthagednepehliaaDoorLh
namespace Go.Proofs.YthagednepehliaaDoor
open Go Go.Kx
theorem zero41 : Zero Tryd.prog 41 [bv (List.replicate 32 0)] := ⟨.agg ([bv (List.replicate 32 0)] : List (List Value)).flatten.toArray, by kernel_rfl, by kernel_rfl⟩
theorem arr41 : arrT Tryd.prog 41 = some (32, 1) := by kernel_rfl
theorem row41 : RowT Tryd.prog 41 32 := RowT.of Tryd.underlying41 rfl (by kernel_rfl)
theorem sz41 : (Tryd.prog.info? 41).map (·.size) = some 32 := by kernel_rfl
theorem pass_ok (s : ByteArray) (w : World) (h1 : 1 ≤ s.size) (h2 : s.size ≤ 48) : Calls Tryd.prog 13 #[.string s] w fun e w' => ∃ v', e = .returned (.tuple #[v', .int .i64 0]) ∧ Mem w [] w' [own v' 1 (phrW s.data.toList).length (bv (phrW s.data.toList))] := by
  have hM := Mem.start0 w
  have hsz : s.data.toList.length = s.size := rfl
  refine f_enter 18 Tryd.func13 rfl rfl rfl ?_
  intro a hE
  replace hE : Env a 18 [(0, _)] := hE
  refine wp_seq_k (fun K1 hK1 => ?_)
  refine wp_plain [true, true] rfl rfl ?_
  refine s_assign hE rfl rfl ?_; clear hE a; intro a hE
  refine s_assign hE rfl rfl ?_; clear hE a; intro a hE
  refine q_nil ?_
  refine hK1 _ _ ?_
  refine wp_seq_k (fun K2 hK2 => ?_)
  refine wp_seq_k (fun K3 hK3 => ?_)
  refine wp_plain [true, true, true, true, true, true, true, true] rfl rfl ?_
  refine s_move hE rfl rfl ?_; clear hE a; intro a hE
  refine s_len_str hE rfl Tryd.underlying9 rfl ?_; clear hE a; intro a hE
  refine s_bin hE rfl rfl bin_lss rfl ?_; clear hE a; intro a hE
  refine s_move hE rfl rfl ?_; clear hE a; intro a hE
  replace hE := hE.cast 7 rfl (show _ = Value.bool false from (congrArg Value.bool (decide_eq_false (by omega))))
  refine g_yes hE rfl rfl ?_
  refine s_move hE rfl rfl ?_; clear hE a; intro a hE
  refine g_yes hE rfl rfl ?_
  refine s_len_str hE rfl Tryd.underlying9 rfl ?_; clear hE a; intro a hE
  refine g_yes hE rfl rfl ?_
  refine s_bin hE rfl rfl bin_gtr rfl ?_; clear hE a; intro a hE
  refine s_pickf hE rfl rfl rfl ?_; clear hE a; intro a hE
  refine q_nil ?_
  replace hE : Env a 18 [(0, _), (2, _), (3, _), (11, _)] := hE.sel [0, 2, 3, 11] rfl
  refine hK3 _ _ ?_
  replace hE := hE.cast 11 rfl (show _ = Value.bool false from (congrArg Value.bool (decide_eq_false (by omega))))
  refine wp_cond_false (hE.eval rfl) ?_
  refine wp_skip ?_
  refine hK2 _ _ ?_
  refine wp_seq_k (fun K4 hK4 => ?_)
  refine wp_plain [true, true, true, false, true, false, true, true] rfl rfl ?_
  refine s_move hE rfl rfl ?_; clear hE a; intro a hE
  refine s_len_str hE rfl Tryd.underlying9 rfl ?_; clear hE a; intro a hE
  refine s_conv hE rfl (cnv_int Tryd.underlying3 Tryd.underlying5 (wrap_u8_ofNat _)) rfl ?_; clear hE a; intro a hE
  refine s_buildSlice (xs := [.tmp 14]) (bv [UInt8.ofNat s.size]) hE hM sl22 rfl rfl rfl (by intro v hv; simp at hv; subst hv; rfl) rfl rfl rfl rfl ?_; clear hE a; intro a v15 w1 hE hM'
  clear hM; have hM := hM'; clear hM'
  refine s_move hE rfl rfl ?_; clear hE a; intro a hE
  refine s_append hE rfl rfl hM sl22 (Src.str Tryd.underlying9 s) (len47 (by omega)) (by omega) (by intro X h; cases h) rfl ?_; clear hE a; intro a v17 w2 hE hM'; clear hM; have hM := hM'; clear hM'
  refine s_assign hE rfl rfl ?_; clear hE a; intro a hE
  refine s_assign hE rfl rfl ?_; clear hE a; intro a hE
  refine q_nil ?_
  replace hE : Env a 18 [(0, _), (2, _), (3, _), (11, _)] := hE.sel [0, 2, 3, 11] rfl
  refine hK4 _ _ ?_
  refine wp_ret ?_
  refine f_ret2 hE rfl rfl rfl ?_
  refine ⟨_, rfl, ?_⟩
  replace hM := hM.ownEq (m' := (phrW s.data.toList).length) (cs' := bv (phrW s.data.toList)) (by simp [phrW, hsz]; omega) (by rw [← bv_append]; rfl)
  exact hM
theorem pass_bad (s : ByteArray) (w : World) (h : s.size < 1 ∨ 48 < s.size) : Calls Tryd.prog 13 #[.string s] w fun e w' => e = .returned (.tuple #[.slice none 0 0, .int .i64 2]) ∧ Mem w [] w' [] := by
  have hM := Mem.start0 w
  refine f_enter 18 Tryd.func13 rfl rfl rfl ?_
  intro a hE
  replace hE : Env a 18 [(0, _)] := hE
  refine wp_seq_k (fun K1 hK1 => ?_)
  refine wp_plain [true, true] rfl rfl ?_
  refine s_assign hE rfl rfl ?_; clear hE a; intro a hE
  refine s_assign hE rfl rfl ?_; clear hE a; intro a hE
  refine q_nil ?_
  refine hK1 _ _ ?_
  refine wp_seq_k (fun K2 hK2 => ?_)
  refine wp_seq_k (fun K3 hK3 => ?_)
  refine wp_plain [true, true, true, true, true, true, true, true] rfl rfl ?_
  refine s_move hE rfl rfl ?_; clear hE a; intro a hE
  refine s_len_str hE rfl Tryd.underlying9 rfl ?_; clear hE a; intro a hE
  refine s_bin hE rfl rfl bin_lss rfl ?_; clear hE a; intro a hE
  refine s_move hE rfl rfl ?_; clear hE a; intro a hE
  refine hE.split 7 rfl (fun hb7 hE' => ?_) (fun hb7 hE' => ?_)
  · replace hE := hE'; clear hE'
    replace hb7 := of_decide_eq_true hb7
    refine g_no (b := true) hE rfl rfl rfl ?_; clear hE a; intro a hE
    refine g_no (b := true) hE rfl rfl rfl ?_; clear hE a; intro a hE
    refine g_no (b := true) hE rfl rfl rfl ?_; clear hE a; intro a hE
    refine s_pickt hE rfl rfl rfl ?_; clear hE a; intro a hE
    refine q_nil ?_
    replace hE : Env a 18 [(0, _), (2, _), (3, _), (11, _)] := hE.sel [0, 2, 3, 11] rfl
    refine hK3 _ _ ?_
    refine wp_cond_true (hE.eval rfl) ?_
    refine wp_seq_k (fun K4 hK4 => ?_)
    refine wp_plain [true, true] rfl rfl ?_
    refine s_assign hE rfl rfl ?_; clear hE a; intro a hE
    refine s_assign hE rfl rfl ?_; clear hE a; intro a hE
    refine q_nil ?_
    refine hK4 _ _ ?_
    refine wp_ret ?_
    refine q_then_r ?_
    refine f_ret2 hE rfl rfl rfl ?_
    exact ⟨rfl, hM⟩
  · replace hE := hE'; clear hE'
    replace hb7 := of_decide_eq_false hb7
    refine g_yes hE rfl rfl ?_
    refine s_move hE rfl rfl ?_; clear hE a; intro a hE
    refine g_yes hE rfl rfl ?_
    refine s_len_str hE rfl Tryd.underlying9 rfl ?_; clear hE a; intro a hE
    refine g_yes hE rfl rfl ?_
    refine s_bin hE rfl rfl bin_gtr rfl ?_; clear hE a; intro a hE
    refine s_pickf hE rfl rfl rfl ?_; clear hE a; intro a hE
    refine q_nil ?_
    replace hE : Env a 18 [(0, _), (2, _), (3, _), (11, _)] := hE.sel [0, 2, 3, 11] rfl
    refine hK3 _ _ ?_
    replace hE := hE.cast 11 rfl (show _ = Value.bool true from (congrArg Value.bool (decide_eq_true (by omega))))
    refine wp_cond_true (hE.eval rfl) ?_
    refine wp_seq_k (fun K4 hK4 => ?_)
    refine wp_plain [true, true] rfl rfl ?_
    refine s_assign hE rfl rfl ?_; clear hE a; intro a hE
    refine s_assign hE rfl rfl ?_; clear hE a; intro a hE
    refine q_nil ?_
    refine hK4 _ _ ?_
    refine wp_ret ?_
    refine q_then_r ?_
    refine f_ret2 hE rfl rfl rfl ?_
    exact ⟨rfl, hM⟩
theorem block_c (v u : Value) (pass salt : List UInt8) (c cu r : Nat) (i : UInt8) (w : World) (hG : (glb 0).holds w) (hr : (rd v 1 pass.length c (bv pass)).holds w) (hu : (rd u 1 salt.length cu (bv salt)).holds w) (hk : pass.length ≤ 1099511627776) (hf : salt.length ≤ 274877906944) (hrr : r ≤ 4096) : Calls Tryd.prog 33 #[v, u, .int .i64 (r : Int), .int .u8 (i.toNat : Int)] w fun e w' => e = .returned (.agg (bv (oW pass salt i r)).toArray) ∧ Mem w [] w' [] := by
  have hM : Mem w [] w [rd v 1 pass.length c (bv pass), rd u 1 salt.length cu (bv salt), glb 0] := Mem.startR w (fun g hg => by
    simp only [List.mem_cons, List.not_mem_nil, or_false] at hg
    rcases hg with rfl | rfl | rfl
    · exact ⟨hr, rfl⟩
    · exact ⟨hu, rfl⟩
    · exact ⟨hG, rfl⟩)
  refine f_enter 41 Tryd.func33 rfl rfl rfl ?_
  intro a hE
  replace hE : Env a 41 [(0, _), (1, _), (2, _), (3, _)] := hE
  refine wp_seq_k (fun K1 hK1 => ?_)
  refine wp_plain [false] rfl rfl ?_
  refine s_alloc [32] hE hM zero41 rfl rfl ?_; clear hE a; intro a b8 w1 hE hM'
  clear hM; have hM := hM'; clear hM'
  refine q_nil ?_
  refine hK1 _ _ ?_
  refine wp_seq_k (fun K2 hK2 => ?_)
  refine wp_plain [true, true, true, false, false, false, false, false] rfl rfl ?_
  refine s_move hE rfl rfl ?_; clear hE a; intro a hE
  refine s_move hE rfl rfl ?_; clear hE a; intro a hE
  refine s_move hE rfl rfl ?_; clear hE a; intro a hE
  refine s_buildSlice (xs := [.const (.int .u8 0), .const (.int .u8 0), .const (.int .u8 0), .tmp 14]) (bv [0, 0, 0, i]) hE hM sl22 rfl rfl rfl (by intro v hv; obtain ⟨x, _, rfl⟩ := List.mem_map.1 (show v ∈ bv [0, 0, 0, i] from hv); rfl) rfl rfl rfl rfl ?_; clear hE a; intro a v15 w2 hE hM'
  clear hM; have hM := hM'; clear hM'
  have h1 := rd_one (hM.get 3 rfl)
  have h2 := own_one (hM.get 0 rfl)
  refine s_buildSlice (xs := [.tmp 13, .tmp 15]) ([u, v15]) hE hM sl57 rfl rfl rfl (by intro v hv; simp only [List.mem_cons, List.not_mem_nil, or_false] at hv; rcases hv with rfl | rfl; rw [h1.1]; rfl; rw [h2.1]; rfl) (by simp [h1.1, h2.1]) rfl rfl rfl ?_; clear hE a; intro a v16 w3 hE hM'
  clear hM; have hM := hM'; clear hM'
  obtain ⟨cl, hl⟩ := own_rd (hM.get 0 rfl)
  obtain ⟨cf, h4⟩ := own_rd (hM.get 1 rfl)
  refine s_call hE rfl Tryd.call23 ((by have h := parts_c v _ pass [salt, [0, 0, 0, i]] _ _ c _ _ (hM.get 5 rfl) (hM.get 3 rfl) hl (rdv_cons (hM.get 4 rfl) (rdv_cons (p := [0, 0, 0, i]) h4 (rdv_nil _))) hk (by simp; omega) (by simp); rw [show ([salt, [0, 0, 0, i]] : List (List UInt8)).flatten = salt ++ [0, 0, 0, i] from by simp] at h; exact h)) rfl ?_
  rintro e w4 ⟨rfl, hN⟩
  refine ⟨_, rfl, trivial, ?_⟩; clear hE a; intro a hE
  replace hM : Mem _ _ w4 [_, _, _, _, _, _] := hM.call0 hN trivial; clear hN
  refine s_alloc [32] hE hM zero42 rfl rfl ?_; clear hE a; intro a b9 w5 hE hM'
  clear hM; have hM := hM'; clear hM'
  refine s_storeSeg 0 hE rfl rfl hM rfl sz42 (by simp) (bv_one _) rfl (by simp) rfl (by intro X h; cases h) ?_; intro w6 hM'; clear hM; have hM := hM'; clear hM'
  simp only [List.set_cons_zero, List.set_cons_succ] at hM
  refine q_nil ?_
  replace hE : Env a 41 [(0, _), (2, _), (8, _), (9, _)] := hE.sel [0, 2, 8, 9] rfl
  refine hK2 _ _ ?_
  refine wp_seq_k (fun K3 hK3 => ?_)
  refine wp_seq_k (fun K4 hK4 => ?_)
  refine wp_plain [true, true] rfl rfl ?_
  refine s_move hE rfl rfl ?_; clear hE a; intro a hE
  refine s_move hE rfl rfl ?_; clear hE a; intro a hE
  refine q_nil ?_
  replace hE : Env a 41 [(0, _), (8, _), (9, _), (18, _), (19, _)] := hE.sel [0, 8, 9, 18, 19] rfl
  refine hK4 _ _ ?_
  refine wp_block ?_
  replace hM : Mem _ _ w6 [_, _, _, _, _, _, _] := hM.pick [3, 0, 4, 6, 1, 2, 5] rfl
  replace hM : Mem _ _ w6 [_, _, _, _] := hM.pick [0, 1, 2, 3] rfl
  refine c_loop (fun (n : Nat) a w' => n ≤ r ∧ Env a 41 [(0, v), (8, .pointer (some ⟨b8, 0, none⟩)), (9, .pointer (some ⟨b9, 0, none⟩)), (18, .int .i64 (r : Int)), (19, .int .i64 (n : Int))] ∧ Mem w [] w' [blk b8 [bv (oW pass salt i n)] [32] 41, blk b9 [bv (uW pass salt i (n - 1))] [32] 42, rd v 1 pass.length c (bv pass), glb 0]) (fun n => r - n) 0 ⟨Nat.zero_le _, hE.sel [0, 8, 9, 18, 19] rfl, hM⟩ ?_
  clear hE hM a; rintro n a w7 ⟨hn, hE, hM⟩
  refine wp_seq_k (fun K5 hK5 => ?_)
  refine wp_plain [true] rfl rfl ?_
  refine s_bin hE rfl rfl bin_lss rfl ?_; clear hE a; intro a hE
  refine q_nil ?_
  refine hK5 _ _ ?_
  refine wp_seq_k (fun K6 hK6 => ?_)
  refine hE.split 20 rfl (fun hb20 hE' => ?_) (fun hb20 hE' => ?_)
  · replace hE := hE'; clear hE'
    replace hb20 := of_decide_eq_true hb20
    replace hb20 : n < r := by omega
    refine wp_cond_true (hE.eval rfl) ?_
    refine wp_skip ?_
    refine hK6 _ _ ?_
    refine wp_seq_k (fun K7 hK7 => ?_)
    refine wp_block ?_
    refine wp_seq_k (fun K8 hK8 => ?_)
    refine wp_plain [true, true] rfl rfl ?_
    refine s_move hE rfl rfl ?_; clear hE a; intro a hE
    refine s_assign hE rfl rfl ?_; clear hE a; intro a hE
    refine q_nil ?_
    replace hE : Env a 41 [(0, _), (8, _), (9, _), (10, _), (18, _), (19, _), (20, _)] := hE.sel [0, 8, 9, 10, 18, 19, 20] rfl
    refine hK8 _ _ ?_
    refine wp_seq_k (fun K9 hK9 => ?_)
    refine wp_seq_k (fun K10 hK10 => ?_)
    refine wp_plain [true, true] rfl rfl ?_
    refine s_move hE rfl rfl ?_; clear hE a; intro a hE
    refine s_bin hE rfl rfl bin_gtr rfl ?_; clear hE a; intro a hE
    refine q_nil ?_
    replace hE : Env a 41 [(0, _), (8, _), (9, _), (10, _), (18, _), (19, _), (20, _), (23, _)] := hE.sel [0, 8, 9, 10, 18, 19, 20, 23] rfl
    refine hK10 _ _ ?_
    refine hE.split 23 rfl (fun hb23 hE' => ?_) (fun hb23 hE' => ?_)
    · replace hE := hE'; clear hE'
      replace hb23 := of_decide_eq_true hb23
      replace hb23 : 0 < n := by omega
      refine wp_cond_true (hE.eval rfl) ?_
      refine wp_plain [true, true, false, false] rfl rfl ?_
      refine s_move hE rfl rfl ?_; clear hE a; intro a hE
      refine s_sliceArr (l := 0) (h := 32) (mx' := 32) hE rfl arr42 rfl rfl rfl (by simp) (by omega) (by omega) (by omega) rfl ?_; clear hE a; intro a hE
      replace hE := hE.cast 25 rfl (show _ = Value.slice (some ⟨b9, 0, none⟩) 32 32 from rfl)
      refine s_call hE rfl Tryd.call24 (of_c v _ pass (uW pass salt i (n - 1)) c _ _ (hM.get 3 rfl) (hM.get 2 rfl) (rd_of_arr (hM.get 1 rfl) (by simp)) hk (by simp)) rfl ?_
      rintro e w8 ⟨rfl, hN⟩
      refine ⟨_, rfl, trivial, ?_⟩; clear hE a; intro a hE
      replace hM : Mem _ _ w8 [_, _, _, _] := hM.call0 hN trivial; clear hN
      replace hM : Mem _ _ w8 [_, _, _, _] := hM.pick [1, 0, 2, 3] rfl
      refine s_storeSeg 0 hE rfl rfl hM rfl sz42 (by simp) (bv_one _) rfl (by simp) rfl (by intro X h; cases h) ?_; intro w9 hM'; clear hM; have hM := hM'; clear hM'
      simp only [List.set_cons_zero, List.set_cons_succ] at hM
      refine q_nil ?_
      replace hE : Env a 41 [(0, _), (8, _), (9, _), (10, _), (18, _), (19, _), (20, _), (23, _)] := hE.sel [0, 8, 9, 10, 18, 19, 20, 23] rfl
      refine hK9 _ _ ?_
      refine wp_seq_k (fun K11 hK11 => ?_)
      refine wp_plain [true] rfl rfl ?_
      refine s_move hE rfl rfl ?_; clear hE a; intro a hE
      refine q_nil ?_
      refine hK11 _ _ ?_
      refine wp_block ?_
      replace hM : Mem _ _ w9 [_, _, _, _] := hM.pick [1, 0, 2, 3] rfl
      rw [uW_step hb23] at hM
      have hou : (oW pass salt i n).length = (uW pass salt i n).length := by simp
      have hol : (oW pass salt i n).length = 32 := by simp
      refine c_loop (fun (k : Nat) a w' => k ≤ 32 ∧ Env a 41 [(0, v), (8, .pointer (some ⟨b8, 0, none⟩)), (9, .pointer (some ⟨b9, 0, none⟩)), (18, .int .i64 (r : Int)), (19, .int .i64 ((n : Nat) : Int)), (27, .int .i64 (k : Int))] ∧ Mem w [] w' [blk b8 [bv (xorI (oW pass salt i n) (uW pass salt i n) k)] [32] 41, blk b9 [bv (uW pass salt i n)] [32] 42, rd v 1 pass.length c (bv pass), glb 0]) (fun k => 32 - k) 0 ⟨Nat.zero_le _, hE.sel [0, 8, 9, 18, 19, 27] rfl, by rw [xorI_zero]; exact hM⟩ ?_
      clear hE hM a; rintro k a w10 ⟨hk, hE, hM⟩
      refine wp_seq_k (fun K12 hK12 => ?_)
      refine wp_plain [true] rfl rfl ?_
      refine s_bin hE rfl rfl bin_lss rfl ?_; clear hE a; intro a hE
      refine q_nil ?_
      refine hK12 _ _ ?_
      refine wp_seq_k (fun K13 hK13 => ?_)
      refine hE.split 28 rfl (fun hb28 hE' => ?_) (fun hb28 hE' => ?_)
      · replace hE := hE'; clear hE'
        replace hb28 := of_decide_eq_true hb28
        replace hb28 : k < 32 := by omega
        refine wp_cond_true (hE.eval rfl) ?_
        refine wp_skip ?_
        refine hK13 _ _ ?_
        refine wp_seq_k (fun K14 hK14 => ?_)
        refine wp_block ?_
        refine wp_seq_k (fun K15 hK15 => ?_)
        refine wp_plain [true, true] rfl rfl ?_
        refine s_move hE rfl rfl ?_; clear hE a; intro a hE
        refine s_assign hE rfl rfl ?_; clear hE a; intro a hE
        refine q_nil ?_
        replace hE : Env a 41 [(0, _), (8, _), (9, _), (11, _), (18, _), (19, _), (27, _), (28, _)] := hE.sel [0, 8, 9, 11, 18, 19, 27, 28] rfl
        refine hK15 _ _ ?_
        refine wp_drawnM2 hM (by kernel_rfl) (fun _ => False) (fun _ => True) [(0, true), (1, true), (2, true), (3, true), (4, true), (5, true), (6, true), (7, true)] [(8, false)] [(8, []), (1, [(2, 1), (6, 2), (7, 1), (8, 1)]), (2, [(6, 2), (7, 2), (8, 2)]), (4, [(5, 4), (6, 5), (7, 4), (8, 4)]), (5, [(6, 5), (7, 5), (8, 5)]), (6, [(7, 6), (8, 6)]), (7, [(8, 7)])] (by kernel_rfl) (by kernel_rfl) rfl rfl ?_
        intro w11 hM' hww11; clear hM; have hM := hM'; clear hM'
        refine s_move hE rfl rfl ?_; clear hE a; intro a hE
        refine s_indexArr (j := k) hE rfl rfl arr41 (by first | rfl | omega) (by first | omega | decide) rfl ?_; clear hE a; intro a hE
        refine s_loadIdx (j := k) hE rfl (by omega) (hM.get 0 rfl) (bv_get (by simp only [bv_length, xorI_length hou, hol]; exact hb28)) one5 (by intro X h; cases h; simp) rfl ?_; clear hE a; intro a hE
        refine s_move hE rfl rfl ?_; clear hE a; intro a hE
        refine s_indexArr (j := k) hE rfl rfl arr42 (by first | rfl | omega) (by first | omega | decide) rfl ?_; clear hE a; intro a hE
        refine s_loadIdx (j := k) hE rfl (by omega) (hM.get 1 rfl) (bv_get (by simp; omega)) one5 (by intro X h; cases h; simp) rfl ?_; clear hE a; intro a hE
        refine s_bin hE rfl rfl bin_xor8 rfl ?_; clear hE a; intro a hE
        refine s_indexArr (j := k) hE rfl rfl arr41 (by first | rfl | omega) (by first | omega | decide) rfl ?_; clear hE a; intro a hE
        refine q_nil (q_ph ?_)
        refine s_storeIdx (j := k) hE rfl (by omega) rfl hM rfl rfl sz5 (by simp only [bv_length, xorI_length hou, hol]; exact hb28) (by intro X h; cases h; first | (simp; done) | simp [valBlocks]) ?_; intro w12 hM'; clear hM; have hM := hM'; clear hM'
        first | rw [bv_set'] at hM | rw [bv_setI] at hM
        refine q_nil ?_
        replace hE : Env a 41 [(0, _), (8, _), (9, _), (11, _), (18, _), (19, _), (27, _), (28, _)] := hE.sel [0, 8, 9, 11, 18, 19, 27, 28] rfl
        refine q_block_n ?_
        refine hK14 _ _ ?_
        refine wp_plain [true, true] rfl rfl ?_
        refine s_bin hE rfl rfl (bin_add (wrap_i64 (by omega) (by omega))) rfl ?_; clear hE a; intro a hE
        refine s_move hE rfl rfl ?_; clear hE a; intro a hE
        refine q_nil ?_
        replace hE : Env a 41 [(0, _), (8, _), (9, _), (11, _), (18, _), (19, _), (27, _), (28, _)] := hE.sel [0, 8, 9, 11, 18, 19, 27, 28] rfl
        replace hE := hE.cast 27 rfl (show _ = Value.int .i64 ((k + 1 : Nat) : Int) from congrArg _ (by omega))
        rw [xorI_get hou (by omega), xorI_set hou (by omega)] at hM
        exact ⟨k + 1, ⟨by omega, hE.sel [0, 8, 9, 18, 19, 27] rfl, hM⟩, by omega⟩
      · replace hE := hE'; clear hE'
        replace hb28 := of_decide_eq_false hb28
        replace hb28 : ¬ k < 32 := by omega
        obtain rfl : k = 32 := by omega
        rw [show xorI (oW pass salt i n) (uW pass salt i n) 32 = oW pass salt i (n + 1) from by rw [oW, ← xorI_all hou, hol]] at hM
        refine wp_cond_false (hE.eval rfl) ?_
        refine wp_exit ?_
        refine q_then_e ?_
        refine q_then_e ?_
        refine q_block_x ?_
        refine q_block_n ?_
        refine hK7 _ _ ?_
        refine wp_plain [true, true] rfl rfl ?_
        refine s_bin hE rfl rfl (bin_add (wrap_i64 (by omega) (by omega))) rfl ?_; clear hE a; intro a hE
        refine s_move hE rfl rfl ?_; clear hE a; intro a hE
        refine q_nil ?_
        replace hE : Env a 41 [(0, _), (8, _), (9, _), (18, _), (19, _), (27, _), (28, _)] := hE.sel [0, 8, 9, 18, 19, 27, 28] rfl
        replace hE := hE.cast 19 rfl (show _ = Value.int .i64 ((n + 1 : Nat) : Int) from congrArg _ (by omega))
        exact ⟨n + 1, ⟨by omega, hE.sel [0, 8, 9, 18, 19] rfl, hM⟩, by omega⟩
    · replace hE := hE'; clear hE'
      replace hb23 := of_decide_eq_false hb23
      replace hb23 : ¬ 0 < n := by omega
      refine wp_cond_false (hE.eval rfl) ?_
      refine wp_skip ?_
      refine hK9 _ _ ?_
      refine wp_seq_k (fun K11 hK11 => ?_)
      refine wp_plain [true] rfl rfl ?_
      refine s_move hE rfl rfl ?_; clear hE a; intro a hE
      refine q_nil ?_
      refine hK11 _ _ ?_
      refine wp_block ?_
      rw [show n - 1 = n by omega] at hM
      have hou : (oW pass salt i n).length = (uW pass salt i n).length := by simp
      have hol : (oW pass salt i n).length = 32 := by simp
      refine c_loop (fun (k : Nat) a w' => k ≤ 32 ∧ Env a 41 [(0, v), (8, .pointer (some ⟨b8, 0, none⟩)), (9, .pointer (some ⟨b9, 0, none⟩)), (18, .int .i64 (r : Int)), (19, .int .i64 ((n : Nat) : Int)), (27, .int .i64 (k : Int))] ∧ Mem w [] w' [blk b8 [bv (xorI (oW pass salt i n) (uW pass salt i n) k)] [32] 41, blk b9 [bv (uW pass salt i n)] [32] 42, rd v 1 pass.length c (bv pass), glb 0]) (fun k => 32 - k) 0 ⟨Nat.zero_le _, hE.sel [0, 8, 9, 18, 19, 27] rfl, by rw [xorI_zero]; exact hM⟩ ?_
      clear hE hM a; rintro k a w8 ⟨hk, hE, hM⟩
      refine wp_seq_k (fun K12 hK12 => ?_)
      refine wp_plain [true] rfl rfl ?_
      refine s_bin hE rfl rfl bin_lss rfl ?_; clear hE a; intro a hE
      refine q_nil ?_
      refine hK12 _ _ ?_
      refine wp_seq_k (fun K13 hK13 => ?_)
      refine hE.split 28 rfl (fun hb28 hE' => ?_) (fun hb28 hE' => ?_)
      · replace hE := hE'; clear hE'
        replace hb28 := of_decide_eq_true hb28
        replace hb28 : k < 32 := by omega
        refine wp_cond_true (hE.eval rfl) ?_
        refine wp_skip ?_
        refine hK13 _ _ ?_
        refine wp_seq_k (fun K14 hK14 => ?_)
        refine wp_block ?_
        refine wp_seq_k (fun K15 hK15 => ?_)
        refine wp_plain [true, true] rfl rfl ?_
        refine s_move hE rfl rfl ?_; clear hE a; intro a hE
        refine s_assign hE rfl rfl ?_; clear hE a; intro a hE
        refine q_nil ?_
        replace hE : Env a 41 [(0, _), (8, _), (9, _), (11, _), (18, _), (19, _), (27, _), (28, _)] := hE.sel [0, 8, 9, 11, 18, 19, 27, 28] rfl
        refine hK15 _ _ ?_
        refine wp_drawnM2 hM (by kernel_rfl) (fun _ => False) (fun _ => True) [(0, true), (1, true), (2, true), (3, true), (4, true), (5, true), (6, true), (7, true)] [(8, false)] [(8, []), (1, [(2, 1), (6, 2), (7, 1), (8, 1)]), (2, [(6, 2), (7, 2), (8, 2)]), (4, [(5, 4), (6, 5), (7, 4), (8, 4)]), (5, [(6, 5), (7, 5), (8, 5)]), (6, [(7, 6), (8, 6)]), (7, [(8, 7)])] (by kernel_rfl) (by kernel_rfl) rfl rfl ?_
        intro w9 hM' hww9; clear hM; have hM := hM'; clear hM'
        refine s_move hE rfl rfl ?_; clear hE a; intro a hE
        refine s_indexArr (j := k) hE rfl rfl arr41 (by first | rfl | omega) (by first | omega | decide) rfl ?_; clear hE a; intro a hE
        refine s_loadIdx (j := k) hE rfl (by omega) (hM.get 0 rfl) (bv_get (by simp only [bv_length, xorI_length hou, hol]; exact hb28)) one5 (by intro X h; cases h; simp) rfl ?_; clear hE a; intro a hE
        refine s_move hE rfl rfl ?_; clear hE a; intro a hE
        refine s_indexArr (j := k) hE rfl rfl arr42 (by first | rfl | omega) (by first | omega | decide) rfl ?_; clear hE a; intro a hE
        refine s_loadIdx (j := k) hE rfl (by omega) (hM.get 1 rfl) (bv_get (by simp; omega)) one5 (by intro X h; cases h; simp) rfl ?_; clear hE a; intro a hE
        refine s_bin hE rfl rfl bin_xor8 rfl ?_; clear hE a; intro a hE
        refine s_indexArr (j := k) hE rfl rfl arr41 (by first | rfl | omega) (by first | omega | decide) rfl ?_; clear hE a; intro a hE
        refine q_nil (q_ph ?_)
        refine s_storeIdx (j := k) hE rfl (by omega) rfl hM rfl rfl sz5 (by simp only [bv_length, xorI_length hou, hol]; exact hb28) (by intro X h; cases h; first | (simp; done) | simp [valBlocks]) ?_; intro w10 hM'; clear hM; have hM := hM'; clear hM'
        first | rw [bv_set'] at hM | rw [bv_setI] at hM
        refine q_nil ?_
        replace hE : Env a 41 [(0, _), (8, _), (9, _), (11, _), (18, _), (19, _), (27, _), (28, _)] := hE.sel [0, 8, 9, 11, 18, 19, 27, 28] rfl
        refine q_block_n ?_
        refine hK14 _ _ ?_
        refine wp_plain [true, true] rfl rfl ?_
        refine s_bin hE rfl rfl (bin_add (wrap_i64 (by omega) (by omega))) rfl ?_; clear hE a; intro a hE
        refine s_move hE rfl rfl ?_; clear hE a; intro a hE
        refine q_nil ?_
        replace hE : Env a 41 [(0, _), (8, _), (9, _), (11, _), (18, _), (19, _), (27, _), (28, _)] := hE.sel [0, 8, 9, 11, 18, 19, 27, 28] rfl
        replace hE := hE.cast 27 rfl (show _ = Value.int .i64 ((k + 1 : Nat) : Int) from congrArg _ (by omega))
        rw [xorI_get hou (by omega), xorI_set hou (by omega)] at hM
        exact ⟨k + 1, ⟨by omega, hE.sel [0, 8, 9, 18, 19, 27] rfl, hM⟩, by omega⟩
      · replace hE := hE'; clear hE'
        replace hb28 := of_decide_eq_false hb28
        replace hb28 : ¬ k < 32 := by omega
        obtain rfl : k = 32 := by omega
        rw [show xorI (oW pass salt i n) (uW pass salt i n) 32 = oW pass salt i (n + 1) from by rw [oW, ← xorI_all hou, hol]] at hM
        refine wp_cond_false (hE.eval rfl) ?_
        refine wp_exit ?_
        refine q_then_e ?_
        refine q_then_e ?_
        refine q_block_x ?_
        refine q_block_n ?_
        refine hK7 _ _ ?_
        refine wp_plain [true, true] rfl rfl ?_
        refine s_bin hE rfl rfl (bin_add (wrap_i64 (by omega) (by omega))) rfl ?_; clear hE a; intro a hE
        refine s_move hE rfl rfl ?_; clear hE a; intro a hE
        refine q_nil ?_
        replace hE : Env a 41 [(0, _), (8, _), (9, _), (18, _), (19, _), (27, _), (28, _)] := hE.sel [0, 8, 9, 18, 19, 27, 28] rfl
        replace hE := hE.cast 19 rfl (show _ = Value.int .i64 ((n + 1 : Nat) : Int) from congrArg _ (by omega))
        exact ⟨n + 1, ⟨by omega, hE.sel [0, 8, 9, 18, 19] rfl, hM⟩, by omega⟩
  · replace hE := hE'; clear hE'
    replace hb20 := of_decide_eq_false hb20
    replace hb20 : ¬ n < r := by omega
    obtain rfl : n = r := by omega
    refine wp_cond_false (hE.eval rfl) ?_
    refine wp_exit ?_
    refine q_then_e ?_
    refine q_then_e ?_
    refine q_block_x ?_
    refine hK3 _ _ ?_
    refine wp_seq_k (fun K7 hK7 => ?_)
    refine wp_plain [true, false] rfl rfl ?_
    refine s_loadN hE rfl (hM.get 0 rfl) row41 rfl (by intro X h; cases h) rfl ?_; clear hE a; intro a hE
    refine s_storeSeg 0 hE rfl rfl hM rfl sz41 (by simp) (bv_one _) rfl (by simp) rfl (by intro X h; cases h) ?_; intro w8 hM'; clear hM; have hM := hM'; clear hM'
    simp only [List.set_cons_zero, List.set_cons_succ] at hM
    refine q_nil ?_
    replace hE : Env a 41 [(0, _), (8, _), (9, _), (18, _), (19, _), (20, _)] := hE.sel [0, 8, 9, 18, 19, 20] rfl
    refine hK7 _ _ ?_
    refine wp_ret ?_
    refine f_ret1 hE rfl (res_cellN rfl (hM.get 0 rfl) row41 rfl) ?_
    exact ⟨rfl, hM.nil⟩
theorem key_c (v u : Value) (pass salt : List UInt8) (c cu r size : Nat) (w : World) (hG : (glb 0).holds w) (hr : (rd v 1 pass.length c (bv pass)).holds w) (hu : (rd u 1 salt.length cu (bv salt)).holds w) (hk : pass.length ≤ 1099511627776) (hf : salt.length ≤ 274877906944) (h1 : 1 ≤ r) (h2 : r ≤ 4096) (h3 : 1 ≤ size) (h4 : size ≤ 128) : Calls Tryd.prog 21 #[v, u, .int .i64 (r : Int), .int .i64 (size : Int)] w fun e w' => ∃ v', e = .returned (.tuple #[v', .int .i64 0]) ∧ (∀ x, x ∈ rdB v' size → w.heap.size ≤ x) ∧ Mem w [] w' [rd v' 1 (keyW pass salt r size).length size (bv (keyW pass salt r size))] := by
  have hM : Mem w [] w [rd v 1 pass.length c (bv pass), rd u 1 salt.length cu (bv salt), glb 0] := Mem.startR w (fun g hg => by
    simp only [List.mem_cons, List.not_mem_nil, or_false] at hg
    rcases hg with rfl | rfl | rfl
    · exact ⟨hr, rfl⟩
    · exact ⟨hu, rfl⟩
    · exact ⟨hG, rfl⟩)
  refine f_enter 45 Tryd.func21 rfl rfl rfl ?_
  intro a hE
  replace hE : Env a 45 [(0, _), (1, _), (2, _), (3, _)] := hE
  refine wp_seq_k (fun K1 hK1 => ?_)
  refine wp_plain [true, true] rfl rfl ?_
  refine s_assign hE rfl rfl ?_; clear hE a; intro a hE
  refine s_assign hE rfl rfl ?_; clear hE a; intro a hE
  refine q_nil ?_
  refine hK1 _ _ ?_
  refine wp_seq_k (fun K2 hK2 => ?_)
  refine wp_seq_k (fun K3 hK3 => ?_)
  refine wp_plain [true, true, true, true, true, true, true, true, true, true, true, true, true, true] rfl rfl ?_
  refine s_move hE rfl rfl ?_; clear hE a; intro a hE
  refine s_bin hE rfl rfl bin_lss rfl ?_; clear hE a; intro a hE
  refine s_move hE rfl rfl ?_; clear hE a; intro a hE
  replace hE := hE.cast 15 rfl (show _ = Value.bool false from (congrArg Value.bool (decide_eq_false (by omega))))
  refine g_yes hE rfl rfl ?_
  refine s_move hE rfl rfl ?_; clear hE a; intro a hE
  refine g_yes hE rfl rfl ?_
  refine s_bin hE rfl rfl bin_gtr rfl ?_; clear hE a; intro a hE
  refine s_pickf hE rfl rfl rfl ?_; clear hE a; intro a hE
  refine s_move hE rfl rfl ?_; clear hE a; intro a hE
  replace hE := hE.cast 19 rfl (show _ = Value.bool false from (congrArg Value.bool (decide_eq_false (by omega))))
  refine g_yes hE rfl rfl ?_
  refine s_move hE rfl rfl ?_; clear hE a; intro a hE
  refine g_yes hE rfl rfl ?_
  refine s_bin hE rfl rfl bin_lss rfl ?_; clear hE a; intro a hE
  refine s_pickf hE rfl rfl rfl ?_; clear hE a; intro a hE
  refine s_move hE rfl rfl ?_; clear hE a; intro a hE
  replace hE := hE.cast 23 rfl (show _ = Value.bool false from (congrArg Value.bool (decide_eq_false (by omega))))
  refine g_yes hE rfl rfl ?_
  refine s_move hE rfl rfl ?_; clear hE a; intro a hE
  refine g_yes hE rfl rfl ?_
  refine s_bin hE rfl rfl bin_gtr rfl ?_; clear hE a; intro a hE
  refine s_pickf hE rfl rfl rfl ?_; clear hE a; intro a hE
  refine q_nil ?_
  replace hE : Env a 45 [(0, _), (1, _), (2, _), (3, _), (8, _), (9, _), (26, _)] := hE.sel [0, 1, 2, 3, 8, 9, 26] rfl
  refine hK3 _ _ ?_
  replace hE := hE.cast 26 rfl (show _ = Value.bool false from (congrArg Value.bool (decide_eq_false (by omega))))
  refine wp_cond_false (hE.eval rfl) ?_
  refine wp_skip ?_
  refine hK2 _ _ ?_
  refine wp_seq_k (fun K4 hK4 => ?_)
  refine wp_plain [true] rfl rfl ?_
  refine s_assign hE rfl rfl ?_; clear hE a; intro a hE
  refine q_nil ?_
  refine hK4 _ _ ?_
  refine wp_seq_k (fun K5 hK5 => ?_)
  refine wp_seq_k (fun K6 hK6 => ?_)
  refine wp_plain [true] rfl rfl ?_
  refine s_assign hE rfl rfl ?_; clear hE a; intro a hE
  refine q_nil ?_
  refine hK6 _ _ ?_
  refine wp_block ?_
  replace hM := hM.addNil 1
  refine c_loop (fun (j : Nat) a w' => j ≤ (size + 31) / 32 ∧ ∃ vo, Env a 45 [(0, v), (1, u), (2, .int .i64 (r : Int)), (3, .int .i64 (size : Int)), (10, vo), (11, .int .u8 ((UInt8.ofNat (j + 1)).toNat : Int))] ∧ Mem w [] w' [own vo 1 (keyP pass salt r j).length (bv (keyP pass salt r j)), rd v 1 pass.length c (bv pass), rd u 1 salt.length cu (bv salt), glb 0]) (fun j => (size + 31) / 32 - j) 0 ⟨Nat.zero_le _, _, hE.sel [0, 1, 2, 3, 10, 11] rfl, hM⟩ ?_
  clear hE hM a; rintro j a w1 ⟨hj, vo, hE, hM⟩
  refine wp_seq_k (fun K7 hK7 => ?_)
  refine wp_seq_k (fun K8 hK8 => ?_)
  refine wp_plain [true, true, true, true] rfl rfl ?_
  refine s_move hE rfl rfl ?_; clear hE a; intro a hE
  refine s_len hE rfl Tryd.underlying22 (own_slice (hM.get 0 rfl)) rfl ?_; clear hE a; intro a hE
  refine s_move hE rfl rfl ?_; clear hE a; intro a hE
  refine s_bin hE rfl rfl bin_lss rfl ?_; clear hE a; intro a hE
  refine q_nil ?_
  replace hE : Env a 45 [(0, _), (1, _), (2, _), (3, _), (10, _), (11, _), (30, _)] := hE.sel [0, 1, 2, 3, 10, 11, 30] rfl
  refine hK8 _ _ ?_
  refine hE.split 30 rfl (fun hb30 hE' => ?_) (fun hb30 hE' => ?_)
  · replace hE := hE'; clear hE'
    replace hb30 := of_decide_eq_true hb30
    simp only [keyP_length] at hb30
    have hjl : j < (size + 31) / 32 := by omega
    refine wp_cond_true (hE.eval rfl) ?_
    refine wp_skip ?_
    refine hK7 _ _ ?_
    refine wp_seq_k (fun K9 hK9 => ?_)
    refine wp_block ?_
    refine wp_seq_k (fun K10 hK10 => ?_)
    refine wp_plain [true, true, true, true, false, false, false] rfl rfl ?_
    refine s_move hE rfl rfl ?_; clear hE a; intro a hE
    refine s_move hE rfl rfl ?_; clear hE a; intro a hE
    refine s_move hE rfl rfl ?_; clear hE a; intro a hE
    refine s_move hE rfl rfl ?_; clear hE a; intro a hE
    refine s_call hE rfl Tryd.call33 (block_c v u pass salt c cu r (UInt8.ofNat (j + 1)) _ (hM.get 3 rfl) (hM.get 1 rfl) (hM.get 2 rfl) hk hf (by omega)) rfl ?_
    rintro e w2 ⟨rfl, hN⟩
    refine ⟨_, rfl, trivial, ?_⟩; clear hE a; intro a hE
    replace hM : Mem _ _ w2 [_, _, _, _] := hM.call0 hN trivial; clear hN
    refine s_alloc [32] hE hM zero41 rfl rfl ?_; clear hE a; intro a b12 w3 hE hM'
    clear hM; have hM := hM'; clear hM'
    refine s_storeSeg 0 hE rfl rfl hM rfl sz41 (by simp) (bv_one _) rfl (by simp) rfl (by intro X h; cases h) ?_; intro w4 hM'; clear hM; have hM := hM'; clear hM'
    simp only [List.set_cons_zero, List.set_cons_succ] at hM
    refine q_nil ?_
    replace hE : Env a 45 [(0, _), (1, _), (2, _), (3, _), (10, _), (11, _), (12, _), (30, _)] := hE.sel [0, 1, 2, 3, 10, 11, 12, 30] rfl
    refine hK10 _ _ ?_
    refine wp_plain [true, true, false, true] rfl rfl ?_
    refine s_move hE rfl rfl ?_; clear hE a; intro a hE
    refine s_sliceArr (l := 0) (h := 32) (mx' := 32) hE rfl arr41 rfl rfl rfl (by simp) (by omega) (by omega) (by omega) rfl ?_; clear hE a; intro a hE
    replace hE := hE.cast 39 rfl (show _ = Value.slice (some ⟨b12, 0, none⟩) 32 32 from rfl)
    replace hM : Mem _ _ w4 [_, _, _, _, _] := hM.pick [1, 0, 2, 3, 4] rfl
    refine s_append hE rfl rfl hM sl22 (Src.rd Tryd.underlying22 (rd_of_arr (hM.get 1 rfl) (by simp)) (bv_one _)) (len47 (by simp; omega)) (by simp; omega) (by intro X h; cases h) rfl ?_; clear hE a; intro a v40 w5 hE hM'; clear hM; have hM := hM'; clear hM'
    replace hM := hM.ownEq (m' := (keyP pass salt r (j + 1)).length) (cs' := bv (keyP pass salt r (j + 1))) (by simp; omega) (by rw [keyP, bv_append])
    refine s_assign hE rfl rfl ?_; clear hE a; intro a hE
    refine q_nil ?_
    replace hE : Env a 45 [(0, _), (1, _), (2, _), (3, _), (10, _), (11, _), (12, _), (30, _)] := hE.sel [0, 1, 2, 3, 10, 11, 12, 30] rfl
    refine q_block_n ?_
    refine hK9 _ _ ?_
    refine wp_plain [true, true, true] rfl rfl ?_
    refine s_move hE rfl rfl ?_; clear hE a; intro a hE
    refine s_bin hE rfl rfl (bin_inc_u8 (b := UInt8.ofNat (j + 1))) rfl ?_; clear hE a; intro a hE
    refine s_assign hE rfl rfl ?_; clear hE a; intro a hE
    refine q_nil ?_
    replace hE : Env a 45 [(0, _), (1, _), (2, _), (3, _), (10, _), (11, _), (12, _), (30, _)] := hE.sel [0, 1, 2, 3, 10, 11, 12, 30] rfl
    replace hE := hE.cast 11 rfl (show _ = Value.int .u8 ((UInt8.ofNat (j + 1 + 1)).toNat : Int) from by rw [UInt8.ofNat_add (j + 1) 1]; rfl)
    replace hM : Mem _ _ w5 [_, _, _, _, _] := hM.pick [0, 2, 3, 4, 1] rfl
    replace hM : Mem _ _ w5 [_, _, _, _] := hM.pick [0, 1, 2, 3] rfl
    exact ⟨j + 1, ⟨by omega, _, hE.sel [0, 1, 2, 3, 10, 11] rfl, hM⟩, by omega⟩
  · replace hE := hE'; clear hE'
    replace hb30 := of_decide_eq_false hb30
    simp only [keyP_length] at hb30
    obtain rfl : j = (size + 31) / 32 := by omega
    refine wp_cond_false (hE.eval rfl) ?_
    refine wp_exit ?_
    refine q_then_e ?_
    refine q_then_e ?_
    refine q_block_x ?_
    refine hK5 _ _ ?_
    refine wp_seq_k (fun K9 hK9 => ?_)
    refine wp_plain [true, true, true, true, true, true] rfl rfl ?_
    refine s_move hE rfl rfl ?_; clear hE a; intro a hE
    refine s_move hE rfl rfl ?_; clear hE a; intro a hE
    refine s_move hE rfl rfl ?_; clear hE a; intro a hE
    obtain ⟨ck, hrk⟩ := own_rd (hM.get 0 rfl)
    have hck := rd_len hrk
    have hnew := hM.new _ (List.mem_cons_self ..)
    refine s_slice (l := 0) (h := size) (mx' := size) hE rfl hrk slt22 rfl ⟨_, rfl⟩ ⟨_, rfl⟩ (by simp) (by omega) (by simp; omega) (by omega) (by simp at hck; omega) rfl ?_; clear hE a; intro a v44 hE hr44 hvb44
    refine s_assign hE rfl rfl ?_; clear hE a; intro a hE
    refine s_assign hE rfl rfl ?_; clear hE a; intro a hE
    refine q_nil ?_
    replace hE : Env a 45 [(0, _), (1, _), (2, _), (3, _), (8, _), (9, _), (10, _), (11, _), (30, _)] := hE.sel [0, 1, 2, 3, 8, 9, 10, 11, 30] rfl
    refine hK9 _ _ ?_
    refine wp_ret ?_
    refine f_ret2 hE rfl rfl rfl ?_
    have hnew' : ∀ x, x ∈ rdB v44 size → w.heap.size ≤ x := fun x hx => by
      have h1 := hvb44 x (by simpa using hx)
      have h2 := hnew x (rdB_sub h1)
      rcases h2 with h2 | h2
      · cases h2
      · exact h2
    refine ⟨_, rfl, hnew', ?_⟩
    have e : (rd v44 1 (keyW pass salt r size).length size (bv (keyW pass salt r size))).holds w1 := by
      rw [keyW_length, keyW, ← bv_take]
      simpa using hr44
    exact hM.nil.addRd e rfl (fun b _ e he => by cases he)
theorem key_bad (v u : Value) (z y : Int) (w : World) (h : z < 1 ∨ 4096 < z ∨ y < 1 ∨ 128 < y) : Calls Tryd.prog 21 #[v, u, .int .i64 z, .int .i64 y] w fun e w' => e = .returned (.tuple #[.slice none 0 0, .int .i64 2]) ∧ Mem w [] w' [] := by
  have hM := Mem.start0 w
  refine f_enter 45 Tryd.func21 rfl rfl rfl ?_
  intro a hE
  replace hE : Env a 45 [(0, _), (1, _), (2, _), (3, _)] := hE
  refine wp_seq_k (fun K1 hK1 => ?_)
  refine wp_plain [true, true] rfl rfl ?_
  refine s_assign hE rfl rfl ?_; clear hE a; intro a hE
  refine s_assign hE rfl rfl ?_; clear hE a; intro a hE
  refine q_nil ?_
  refine hK1 _ _ ?_
  refine wp_seq_k (fun K2 hK2 => ?_)
  refine wp_seq_k (fun K3 hK3 => ?_)
  refine wp_plain [true, true, true, true, true, true, true, true, true, true, true, true, true, true] rfl rfl ?_
  refine s_move hE rfl rfl ?_; clear hE a; intro a hE
  refine s_bin hE rfl rfl bin_lss rfl ?_; clear hE a; intro a hE
  refine s_move hE rfl rfl ?_; clear hE a; intro a hE
  refine hE.split 15 rfl (fun hb15 hE' => ?_) (fun hb15 hE' => ?_)
  · replace hE := hE'; clear hE'
    replace hb15 := of_decide_eq_true hb15
    refine g_no (b := true) hE rfl rfl rfl ?_; clear hE a; intro a hE
    refine g_no (b := true) hE rfl rfl rfl ?_; clear hE a; intro a hE
    refine s_pickt hE rfl rfl rfl ?_; clear hE a; intro a hE
    refine s_move hE rfl rfl ?_; clear hE a; intro a hE
    refine g_no (b := true) hE rfl rfl rfl ?_; clear hE a; intro a hE
    refine g_no (b := true) hE rfl rfl rfl ?_; clear hE a; intro a hE
    refine s_pickt hE rfl rfl rfl ?_; clear hE a; intro a hE
    refine s_move hE rfl rfl ?_; clear hE a; intro a hE
    refine g_no (b := true) hE rfl rfl rfl ?_; clear hE a; intro a hE
    refine g_no (b := true) hE rfl rfl rfl ?_; clear hE a; intro a hE
    refine s_pickt hE rfl rfl rfl ?_; clear hE a; intro a hE
    refine q_nil ?_
    replace hE : Env a 45 [(0, _), (1, _), (2, _), (3, _), (8, _), (9, _), (26, _)] := hE.sel [0, 1, 2, 3, 8, 9, 26] rfl
    refine hK3 _ _ ?_
    refine wp_cond_true (hE.eval rfl) ?_
    refine wp_seq_k (fun K4 hK4 => ?_)
    refine wp_plain [true, true] rfl rfl ?_
    refine s_assign hE rfl rfl ?_; clear hE a; intro a hE
    refine s_assign hE rfl rfl ?_; clear hE a; intro a hE
    refine q_nil ?_
    refine hK4 _ _ ?_
    refine wp_ret ?_
    refine q_then_r ?_
    refine f_ret2 hE rfl rfl rfl ?_
    exact ⟨rfl, hM⟩
  · replace hE := hE'; clear hE'
    replace hb15 := of_decide_eq_false hb15
    refine g_yes hE rfl rfl ?_
    refine s_move hE rfl rfl ?_; clear hE a; intro a hE
    refine g_yes hE rfl rfl ?_
    refine s_bin hE rfl rfl bin_gtr rfl ?_; clear hE a; intro a hE
    refine s_pickf hE rfl rfl rfl ?_; clear hE a; intro a hE
    refine s_move hE rfl rfl ?_; clear hE a; intro a hE
    refine hE.split 19 rfl (fun hb19 hE' => ?_) (fun hb19 hE' => ?_)
    · replace hE := hE'; clear hE'
      replace hb19 := of_decide_eq_true hb19
      refine g_no (b := true) hE rfl rfl rfl ?_; clear hE a; intro a hE
      refine g_no (b := true) hE rfl rfl rfl ?_; clear hE a; intro a hE
      refine s_pickt hE rfl rfl rfl ?_; clear hE a; intro a hE
      refine s_move hE rfl rfl ?_; clear hE a; intro a hE
      refine g_no (b := true) hE rfl rfl rfl ?_; clear hE a; intro a hE
      refine g_no (b := true) hE rfl rfl rfl ?_; clear hE a; intro a hE
      refine s_pickt hE rfl rfl rfl ?_; clear hE a; intro a hE
      refine q_nil ?_
      replace hE : Env a 45 [(0, _), (1, _), (2, _), (3, _), (8, _), (9, _), (26, _)] := hE.sel [0, 1, 2, 3, 8, 9, 26] rfl
      refine hK3 _ _ ?_
      refine wp_cond_true (hE.eval rfl) ?_
      refine wp_seq_k (fun K4 hK4 => ?_)
      refine wp_plain [true, true] rfl rfl ?_
      refine s_assign hE rfl rfl ?_; clear hE a; intro a hE
      refine s_assign hE rfl rfl ?_; clear hE a; intro a hE
      refine q_nil ?_
      refine hK4 _ _ ?_
      refine wp_ret ?_
      refine q_then_r ?_
      refine f_ret2 hE rfl rfl rfl ?_
      exact ⟨rfl, hM⟩
    · replace hE := hE'; clear hE'
      replace hb19 := of_decide_eq_false hb19
      refine g_yes hE rfl rfl ?_
      refine s_move hE rfl rfl ?_; clear hE a; intro a hE
      refine g_yes hE rfl rfl ?_
      refine s_bin hE rfl rfl bin_lss rfl ?_; clear hE a; intro a hE
      refine s_pickf hE rfl rfl rfl ?_; clear hE a; intro a hE
      refine s_move hE rfl rfl ?_; clear hE a; intro a hE
      refine hE.split 23 rfl (fun hb23 hE' => ?_) (fun hb23 hE' => ?_)
      · replace hE := hE'; clear hE'
        replace hb23 := of_decide_eq_true hb23
        refine g_no (b := true) hE rfl rfl rfl ?_; clear hE a; intro a hE
        refine g_no (b := true) hE rfl rfl rfl ?_; clear hE a; intro a hE
        refine s_pickt hE rfl rfl rfl ?_; clear hE a; intro a hE
        refine q_nil ?_
        replace hE : Env a 45 [(0, _), (1, _), (2, _), (3, _), (8, _), (9, _), (26, _)] := hE.sel [0, 1, 2, 3, 8, 9, 26] rfl
        refine hK3 _ _ ?_
        refine wp_cond_true (hE.eval rfl) ?_
        refine wp_seq_k (fun K4 hK4 => ?_)
        refine wp_plain [true, true] rfl rfl ?_
        refine s_assign hE rfl rfl ?_; clear hE a; intro a hE
        refine s_assign hE rfl rfl ?_; clear hE a; intro a hE
        refine q_nil ?_
        refine hK4 _ _ ?_
        refine wp_ret ?_
        refine q_then_r ?_
        refine f_ret2 hE rfl rfl rfl ?_
        exact ⟨rfl, hM⟩
      · replace hE := hE'; clear hE'
        replace hb23 := of_decide_eq_false hb23
        refine g_yes hE rfl rfl ?_
        refine s_move hE rfl rfl ?_; clear hE a; intro a hE
        refine g_yes hE rfl rfl ?_
        refine s_bin hE rfl rfl bin_gtr rfl ?_; clear hE a; intro a hE
        refine s_pickf hE rfl rfl rfl ?_; clear hE a; intro a hE
        refine q_nil ?_
        replace hE : Env a 45 [(0, _), (1, _), (2, _), (3, _), (8, _), (9, _), (26, _)] := hE.sel [0, 1, 2, 3, 8, 9, 26] rfl
        refine hK3 _ _ ?_
        replace hE := hE.cast 26 rfl (show _ = Value.bool true from (congrArg Value.bool (decide_eq_true (by omega))))
        refine wp_cond_true (hE.eval rfl) ?_
        refine wp_seq_k (fun K4 hK4 => ?_)
        refine wp_plain [true, true] rfl rfl ?_
        refine s_assign hE rfl rfl ?_; clear hE a; intro a hE
        refine s_assign hE rfl rfl ?_; clear hE a; intro a hE
        refine q_nil ?_
        refine hK4 _ _ ?_
        refine wp_ret ?_
        refine q_then_r ?_
        refine f_ret2 hE rfl rfl rfl ?_
        exact ⟨rfl, hM⟩
theorem knownK1 : keyW [112, 97, 115, 115, 119, 111, 114, 100] [115, 97, 108, 116] 1 32 = [18, 15, 182, 207, 252, 248, 179, 44, 67, 231, 34, 82, 86, 196, 248, 55, 168, 101, 72, 201, 44, 204, 53, 72, 8, 5, 152, 124, 183, 11, 225, 123] := by decide +kernel
theorem knownK2 : keyW [112, 97, 115, 115, 119, 111, 114, 100] [115, 97, 108, 116] 2 32 = [174, 77, 12, 149, 175, 107, 70, 211, 45, 10, 223, 249, 40, 240, 109, 208, 42, 48, 63, 142, 243, 194, 81, 223, 214, 226, 216, 90, 149, 71, 76, 67] := by decide +kernel
theorem one_c (w : World) : Calls Tryd.prog 18 #[] w fun e w' => e = .returned (.string (str [18, 15, 182, 207, 252, 248, 179, 44, 67, 231, 34, 82, 86, 196, 248, 55, 168, 101, 72, 201, 44, 204, 53, 72, 8, 5, 152, 124, 183, 11, 225, 123])) ∧ Mem w [] w' [] := by
  have hM := Mem.start0 w
  refine f_enter 1 Tryd.func18 rfl rfl rfl ?_
  intro a hE
  replace hE : Env a 1 [] := hE
  refine wp_seq_k (fun K1 hK1 => ?_)
  refine wp_plain [true] rfl rfl ?_
  refine s_assign hE rfl rfl ?_; clear hE a; intro a hE
  refine q_nil ?_
  refine hK1 _ _ ?_
  refine wp_seq_k (fun K2 hK2 => ?_)
  refine wp_plain [true] rfl rfl ?_
  refine s_assign hE rfl rfl ?_; clear hE a; intro a hE
  refine q_nil ?_
  refine hK2 _ _ ?_
  refine wp_ret ?_
  refine f_ret1 hE rfl rfl ?_
  exact ⟨by kernel_rfl, hM⟩
theorem two_c (w : World) : Calls Tryd.prog 17 #[] w fun e w' => e = .returned (.string (str [174, 77, 12, 149, 175, 107, 70, 211, 45, 10, 223, 249, 40, 240, 109, 208, 42, 48, 63, 142, 243, 194, 81, 223, 214, 226, 216, 90, 149, 71, 76, 67])) ∧ Mem w [] w' [] := by
  have hM := Mem.start0 w
  refine f_enter 1 Tryd.func17 rfl rfl rfl ?_
  intro a hE
  replace hE : Env a 1 [] := hE
  refine wp_seq_k (fun K1 hK1 => ?_)
  refine wp_plain [true] rfl rfl ?_
  refine s_assign hE rfl rfl ?_; clear hE a; intro a hE
  refine q_nil ?_
  refine hK1 _ _ ?_
  refine wp_seq_k (fun K2 hK2 => ?_)
  refine wp_plain [true] rfl rfl ?_
  refine s_assign hE rfl rfl ?_; clear hE a; intro a hE
  refine q_nil ?_
  refine hK2 _ _ ?_
  refine wp_ret ?_
  refine f_ret1 hE rfl rfl ?_
  exact ⟨by kernel_rfl, hM⟩
theorem is_c (r n : Nat) (t : ByteArray) (w : World) (hG : (glb 0).holds w) (h1 : 1 ≤ r) (h2 : r ≤ 4096) (h3 : 1 ≤ n) (h4 : n ≤ 128) : Calls Tryd.prog 16 #[.int .i64 (r : Int), .int .i64 (n : Int), .string t] w fun e w' => e = .returned (.bool (decide (keyW [112, 97, 115, 115, 119, 111, 114, 100] [115, 97, 108, 116] r n = t.data.toList))) ∧ Mem w [] w' [] := by
  have hM := Mem.startR1 hG rfl
  refine f_enter 27 Tryd.func16 rfl rfl rfl ?_
  intro a hE
  replace hE : Env a 27 [(0, _), (1, _), (2, _)] := hE
  refine wp_seq_k (fun K1 hK1 => ?_)
  refine wp_plain [true] rfl rfl ?_
  refine s_assign hE rfl rfl ?_; clear hE a; intro a hE
  refine q_nil ?_
  refine hK1 _ _ ?_
  refine wp_seq_k (fun K2 hK2 => ?_)
  refine wp_plain [false, false, false, false, true, true, false, true, true, true, true, true] rfl rfl ?_
  refine s_buildSlice (xs := [.const (.int .u8 112), .const (.int .u8 97), .const (.int .u8 115), .const (.int .u8 115), .const (.int .u8 119), .const (.int .u8 111), .const (.int .u8 114), .const (.int .u8 100)]) (bv [112, 97, 115, 115, 119, 111, 114, 100]) hE hM sl22 rfl rfl rfl (by intro v hv; obtain ⟨x, _, rfl⟩ := List.mem_map.1 (show v ∈ bv [112, 97, 115, 115, 119, 111, 114, 100] from hv); rfl) rfl rfl rfl rfl ?_; clear hE a; intro a v10 w1 hE hM'
  clear hM; have hM := hM'; clear hM'
  refine s_convSame hE rfl hM Tryd.underlying22 Tryd.underlying5 (by omega) (by intro X h; cases h) rfl ?_; clear hE a; intro a w2 hE hM'; clear hM; have hM := hM'; clear hM'
  refine s_buildSlice (xs := [.const (.int .u8 115), .const (.int .u8 97), .const (.int .u8 108), .const (.int .u8 116)]) (bv [115, 97, 108, 116]) hE hM sl22 rfl rfl rfl (by intro v hv; obtain ⟨x, _, rfl⟩ := List.mem_map.1 (show v ∈ bv [115, 97, 108, 116] from hv); rfl) rfl rfl rfl rfl ?_; clear hE a; intro a v12 w3 hE hM'
  clear hM; have hM := hM'; clear hM'
  refine s_convSame hE rfl hM Tryd.underlying22 Tryd.underlying5 (by omega) (by intro X h; cases h) rfl ?_; clear hE a; intro a w4 hE hM'; clear hM; have hM := hM'; clear hM'
  refine s_move hE rfl rfl ?_; clear hE a; intro a hE
  refine s_move hE rfl rfl ?_; clear hE a; intro a hE
  obtain ⟨cp, hp⟩ := own_rd (hM.get 1 rfl)
  obtain ⟨cs, hs⟩ := own_rd (hM.get 0 rfl)
  refine s_call hE rfl Tryd.call21 (key_c _ _ [112, 97, 115, 115, 119, 111, 114, 100] [115, 97, 108, 116] _ _ r n _ (hM.get 2 rfl) hp hs (by decide) (by decide) h1 h2 h3 h4) rfl ?_
  rintro e w5 ⟨vk, rfl, hnk, hN⟩
  refine ⟨_, rfl, trivial, ?_⟩; clear hE a; intro a hE
  replace hM : Mem _ _ w5 [_, _, _, _] := hM.callN hN (by intro e he x hx; rw [List.mem_singleton.1 he] at hx; exact hnk x hx); clear hN
  refine s_move hE rfl rfl ?_; clear hE a; intro a hE
  refine s_extract hE rfl rfl rfl ?_; clear hE a; intro a hE
  refine s_extract hE rfl rfl rfl ?_; clear hE a; intro a hE
  refine s_assign hE rfl rfl ?_; clear hE a; intro a hE
  refine s_assign hE rfl rfl ?_; clear hE a; intro a hE
  refine q_nil ?_
  replace hE : Env a 27 [(2, _), (6, _), (7, _), (8, _)] := hE.sel [2, 6, 7, 8] rfl
  refine hK2 _ _ ?_
  refine wp_seq_k (fun K3 hK3 => ?_)
  refine wp_plain [true, true, true, true, true, true, true, true, true] rfl rfl ?_
  refine s_move hE rfl rfl ?_; clear hE a; intro a hE
  refine s_bin hE rfl rfl bin_eql rfl ?_; clear hE a; intro a hE
  refine s_move hE rfl rfl ?_; clear hE a; intro a hE
  replace hE := hE.cast 21 rfl (show _ = Value.bool true from (congrArg Value.bool (by first | rfl | decide)))
  refine g_yes hE rfl rfl ?_
  refine s_move hE rfl rfl ?_; clear hE a; intro a hE
  refine g_yes hE rfl rfl ?_
  refine s_toStr hE rfl Tryd.underlying22 Tryd.underlying5 Tryd.underlying9 (hM.get 0 rfl) (by intro X h; cases h) rfl ?_; clear hE a; intro a hE
  refine g_yes hE rfl rfl ?_
  refine s_move hE rfl rfl ?_; clear hE a; intro a hE
  refine g_yes hE rfl rfl ?_
  refine s_bin hE rfl rfl bins_str.1 rfl ?_; clear hE a; intro a hE
  refine s_pickt hE rfl rfl rfl ?_; clear hE a; intro a hE
  refine s_assign hE rfl rfl ?_; clear hE a; intro a hE
  refine q_nil ?_
  replace hE : Env a 27 [(6, _)] := hE.sel [6] rfl
  refine hK3 _ _ ?_
  refine wp_ret ?_
  refine f_ret1 hE rfl rfl ?_
  exact ⟨rfl, hM.nil⟩
theorem no_c (z y : Int) (w : World) (h : z < 1 ∨ 4096 < z ∨ y < 1 ∨ 128 < y) : Calls Tryd.prog 19 #[.int .i64 z, .int .i64 y] w fun e w' => e = .returned (.bool true) ∧ Mem w [] w' [] := by
  have hM := Mem.start0 w
  refine f_enter 24 Tryd.func19 rfl rfl rfl ?_
  intro a hE
  replace hE : Env a 24 [(0, _), (1, _)] := hE
  refine wp_seq_k (fun K1 hK1 => ?_)
  refine wp_plain [true] rfl rfl ?_
  refine s_assign hE rfl rfl ?_; clear hE a; intro a hE
  refine q_nil ?_
  refine hK1 _ _ ?_
  refine wp_seq_k (fun K2 hK2 => ?_)
  refine wp_plain [false, false, false, false, true, true, false, true, true, true, true, true] rfl rfl ?_
  refine s_buildSlice (xs := [.const (.int .u8 112), .const (.int .u8 97), .const (.int .u8 115), .const (.int .u8 115), .const (.int .u8 119), .const (.int .u8 111), .const (.int .u8 114), .const (.int .u8 100)]) (bv [112, 97, 115, 115, 119, 111, 114, 100]) hE hM sl22 rfl rfl rfl (by intro v hv; obtain ⟨x, _, rfl⟩ := List.mem_map.1 (show v ∈ bv [112, 97, 115, 115, 119, 111, 114, 100] from hv); rfl) rfl rfl rfl rfl ?_; clear hE a; intro a v8 w1 hE hM'
  clear hM; have hM := hM'; clear hM'
  refine s_convSame hE rfl hM Tryd.underlying22 Tryd.underlying5 (by omega) (by intro X h; cases h) rfl ?_; clear hE a; intro a w2 hE hM'; clear hM; have hM := hM'; clear hM'
  refine s_buildSlice (xs := [.const (.int .u8 115), .const (.int .u8 97), .const (.int .u8 108), .const (.int .u8 116)]) (bv [115, 97, 108, 116]) hE hM sl22 rfl rfl rfl (by intro v hv; obtain ⟨x, _, rfl⟩ := List.mem_map.1 (show v ∈ bv [115, 97, 108, 116] from hv); rfl) rfl rfl rfl rfl ?_; clear hE a; intro a v10 w3 hE hM'
  clear hM; have hM := hM'; clear hM'
  refine s_convSame hE rfl hM Tryd.underlying22 Tryd.underlying5 (by omega) (by intro X h; cases h) rfl ?_; clear hE a; intro a w4 hE hM'; clear hM; have hM := hM'; clear hM'
  refine s_move hE rfl rfl ?_; clear hE a; intro a hE
  refine s_move hE rfl rfl ?_; clear hE a; intro a hE
  refine s_call hE rfl Tryd.call21 (key_bad _ _ z y _ h) rfl ?_
  rintro e w5 ⟨rfl, hN⟩
  refine ⟨_, rfl, trivial, ?_⟩; clear hE a; intro a hE
  replace hM : Mem _ _ w5 [_, _] := hM.call0 hN trivial; clear hN
  refine s_move hE rfl rfl ?_; clear hE a; intro a hE
  refine s_extract hE rfl rfl rfl ?_; clear hE a; intro a hE
  refine s_extract hE rfl rfl rfl ?_; clear hE a; intro a hE
  refine s_assign hE rfl rfl ?_; clear hE a; intro a hE
  refine s_assign hE rfl rfl ?_; clear hE a; intro a hE
  refine q_nil ?_
  replace hE : Env a 24 [(4, _), (5, _), (6, _)] := hE.sel [4, 5, 6] rfl
  refine hK2 _ _ ?_
  refine wp_seq_k (fun K3 hK3 => ?_)
  refine wp_plain [true, true, true, true, true, true, true, true] rfl rfl ?_
  refine s_move hE rfl rfl ?_; clear hE a; intro a hE
  refine s_bin hE rfl rfl bin_eql rfl ?_; clear hE a; intro a hE
  refine s_move hE rfl rfl ?_; clear hE a; intro a hE
  replace hE := hE.cast 19 rfl (show _ = Value.bool true from (congrArg Value.bool (by first | rfl | decide)))
  refine g_yes hE rfl rfl ?_
  refine s_move hE rfl rfl ?_; clear hE a; intro a hE
  refine g_yes hE rfl rfl ?_
  refine s_len hE rfl Tryd.underlying22 ⟨_, _, rfl⟩ rfl ?_; clear hE a; intro a hE
  refine g_yes hE rfl rfl ?_
  refine s_bin hE rfl rfl bin_eql rfl ?_; clear hE a; intro a hE
  refine s_pickt hE rfl rfl rfl ?_; clear hE a; intro a hE
  refine s_assign hE rfl rfl ?_; clear hE a; intro a hE
  refine q_nil ?_
  replace hE : Env a 24 [(4, _)] := hE.sel [4] rfl
  refine hK3 _ _ ?_
  refine wp_ret ?_
  refine f_ret1 hE rfl rfl ?_
  exact ⟨rfl, hM.nil⟩
theorem awake_c (w : World) (hG : (glb 0).holds w) : Calls Tryd.prog 15 #[] w fun e w' => e = .returned (.bool true) ∧ Mem w [] w' [] := by
  have hM := Mem.startR1 hG rfl
  refine f_enter 18 Tryd.func15 rfl rfl rfl ?_
  intro a hE
  replace hE : Env a 18 [] := hE
  refine wp_seq_k (fun K1 hK1 => ?_)
  refine wp_plain [true] rfl rfl ?_
  refine s_assign hE rfl rfl ?_; clear hE a; intro a hE
  refine q_nil ?_
  refine hK1 _ _ ?_
  refine wp_seq_k (fun K2 hK2 => ?_)
  refine wp_plain [false, true, true, true, true, true] rfl rfl ?_
  refine s_call hE rfl Tryd.call13 (pass_ok _ _ (of_decide_eq_true (by kernel_rfl)) (of_decide_eq_true (by kernel_rfl))) rfl ?_
  rintro e w1 ⟨vb, rfl, hN⟩
  refine ⟨_, rfl, trivial, ?_⟩; clear hE a; intro a hE
  replace hM : Mem _ _ w1 [_, _] := hM.call0 hN ⟨rfl, trivial⟩; clear hN
  refine s_move hE rfl rfl ?_; clear hE a; intro a hE
  refine s_extract hE rfl rfl rfl ?_; clear hE a; intro a hE
  refine s_extract hE rfl rfl rfl ?_; clear hE a; intro a hE
  refine s_assign hE rfl rfl ?_; clear hE a; intro a hE
  refine s_assign hE rfl rfl ?_; clear hE a; intro a hE
  refine q_nil ?_
  replace hE : Env a 18 [(0, _), (1, _), (2, _)] := hE.sel [0, 1, 2] rfl
  refine hK2 _ _ ?_
  refine wp_seq_k (fun K3 hK3 => ?_)
  refine wp_plain [false, false, true, true, true, true, true, true, true, true, true, true] rfl rfl ?_
  refine s_call hE rfl Tryd.call18 (one_c _) rfl ?_
  rintro e w2 ⟨rfl, hN⟩
  refine ⟨_, rfl, trivial, ?_⟩; clear hE a; intro a hE
  replace hM : Mem _ _ w2 [_, _] := hM.call0 hN trivial; clear hN
  refine s_call hE rfl Tryd.call16 ((by have h := is_c 1 32 (str [18, 15, 182, 207, 252, 248, 179, 44, 67, 231, 34, 82, 86, 196, 248, 55, 168, 101, 72, 201, 44, 204, 53, 72, 8, 5, 152, 124, 183, 11, 225, 123]) _ (hM.get 1 rfl) (by decide) (by decide) (by decide) (by decide); rw [show decide (keyW [112, 97, 115, 115, 119, 111, 114, 100] [115, 97, 108, 116] 1 32 = (str [18, 15, 182, 207, 252, 248, 179, 44, 67, 231, 34, 82, 86, 196, 248, 55, 168, 101, 72, 201, 44, 204, 53, 72, 8, 5, 152, 124, 183, 11, 225, 123]).data.toList) = true from decide_eq_true knownK1] at h; exact h)) rfl ?_
  rintro e w3 ⟨rfl, hN⟩
  refine ⟨_, rfl, trivial, ?_⟩; clear hE a; intro a hE
  replace hM : Mem _ _ w3 [_, _] := hM.call0 hN trivial; clear hN
  refine s_move hE rfl rfl ?_; clear hE a; intro a hE
  replace hE := hE.cast 9 rfl (show _ = Value.bool true from (congrArg Value.bool (by first | rfl | decide | exact decide_eq_true (by kernel_rfl))))
  refine g_yes hE rfl rfl ?_
  refine s_move hE rfl rfl ?_; clear hE a; intro a hE
  refine g_yes hE rfl rfl ?_
  refine s_bin hE rfl rfl bin_eql rfl ?_; clear hE a; intro a hE
  refine s_pickt hE rfl rfl rfl ?_; clear hE a; intro a hE
  refine s_move hE rfl rfl ?_; clear hE a; intro a hE
  replace hE := hE.cast 13 rfl (show _ = Value.bool true from (congrArg Value.bool (by first | rfl | decide | exact decide_eq_true (by kernel_rfl))))
  refine g_yes hE rfl rfl ?_
  refine s_move hE rfl rfl ?_; clear hE a; intro a hE
  refine g_yes hE rfl rfl ?_
  obtain ⟨cs15, hs15⟩ := own_rd (hM.get 0 rfl)
  refine s_toStr hE rfl Tryd.underlying22 Tryd.underlying5 Tryd.underlying9 hs15 (by intro X h; cases h) rfl ?_; clear hE a; intro a hE
  refine g_yes hE rfl rfl ?_
  refine s_bin hE rfl rfl bins_str.1 rfl ?_; clear hE a; intro a hE
  refine s_pickt hE rfl rfl rfl ?_; clear hE a; intro a hE
  refine s_assign hE rfl rfl ?_; clear hE a; intro a hE
  refine q_nil ?_
  replace hE : Env a 18 [(0, _)] := hE.sel [0] rfl
  refine hK3 _ _ ?_
  refine wp_ret ?_
  refine f_ret1 hE rfl rfl ?_
  exact ⟨by first | rfl | exact congrArg (fun b => Ending.returned (Value.bool b)) (decide_eq_true (by kernel_rfl)), hM.nil⟩
end Go.Proofs.YthagednepehliaaDoor
