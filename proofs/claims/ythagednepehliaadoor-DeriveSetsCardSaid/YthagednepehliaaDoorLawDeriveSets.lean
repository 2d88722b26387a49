/- DeriveSets of casematelaw09 returns true for whatever two keys. No condition. -/
import Derived.Test.YthagednepehliaaDoorLr
import Derived.Test.YthagednepehliaaDoorTie
import Derived.Test.YthagednepehliaaDoorCards
namespace Go.Proofs.YthagednepehliaaDoor
open Go Go.Kx
open Go.ChangeShapes Go.WideShapes Go.ChangeAt Go.RowKit
theorem fo48_0 : fieldOff Tryd.prog 48 0 = some 0 := by kernel_rfl
theorem fo48_1 : fieldOff Tryd.prog 48 1 = some 32 := by kernel_rfl
theorem fo48_2 : fieldOff Tryd.prog 48 2 = some 64 := by kernel_rfl
theorem rrow_c (s : ByteArray) (w : World) (hs : s.size ≤ 1000000) : Calls Tryd.prog 38 #[.string s] w fun e w' => ∃ v', e = .returned v' ∧ Mem w [] w' [own v' 1 (rowL s.data.toList).length (bv (rowL s.data.toList))] := by
  have hM := Mem.start0 w
  have hsz : s.data.toList.length = s.size := rfl
  refine f_enter 32 Tryd.func38 rfl rfl rfl ?_
  intro a hE
  replace hE : Env a 32 [(0, _)] := hE
  refine wp_seq_k (fun K1 hK1 => ?_)
  refine wp_plain [true] rfl rfl ?_
  refine s_assign hE rfl rfl ?_; clear hE a; intro a hE
  refine q_nil ?_
  refine hK1 _ _ ?_
  refine wp_seq_k (fun K2 hK2 => ?_)
  refine wp_plain [true, true, true] rfl rfl ?_
  refine s_move hE rfl rfl ?_; clear hE a; intro a hE
  refine s_len_str hE rfl Tryd.underlying9 rfl ?_; clear hE a; intro a hE
  refine s_assign hE rfl rfl ?_; clear hE a; intro a hE
  refine q_nil ?_
  replace hE : Env a 32 [(0, _), (2, _), (3, _)] := hE.sel [0, 2, 3] rfl
  refine hK2 _ _ ?_
  refine wp_seq_k (fun K3 hK3 => ?_)
  refine wp_plain [true, true, true, true, true, true, true, true, true, true, true, false, true] rfl rfl ?_
  refine s_move hE rfl rfl ?_; clear hE a; intro a hE
  refine s_bin hE rfl rfl (bin_quo_nat (s := 16777216) (by decide) (wrap_i64 (by omega) (by omega))) rfl ?_; clear hE a; intro a hE
  refine s_conv hE rfl (cnv_int Tryd.underlying3 Tryd.underlying5 (wrap_u8_ofNat _)) rfl ?_; clear hE a; intro a hE
  refine s_move hE rfl rfl ?_; clear hE a; intro a hE
  refine s_bin hE rfl rfl (bin_quo_nat (s := 65536) (by decide) (wrap_i64 (by omega) (by omega))) rfl ?_; clear hE a; intro a hE
  refine s_conv hE rfl (cnv_int Tryd.underlying3 Tryd.underlying5 (wrap_u8_ofNat _)) rfl ?_; clear hE a; intro a hE
  refine s_move hE rfl rfl ?_; clear hE a; intro a hE
  refine s_bin hE rfl rfl (bin_quo_nat (s := 256) (by decide) (wrap_i64 (by omega) (by omega))) rfl ?_; clear hE a; intro a hE
  refine s_conv hE rfl (cnv_int Tryd.underlying3 Tryd.underlying5 (wrap_u8_ofNat _)) rfl ?_; clear hE a; intro a hE
  refine s_move hE rfl rfl ?_; clear hE a; intro a hE
  refine s_conv hE rfl (cnv_int Tryd.underlying3 Tryd.underlying5 (wrap_u8_ofNat _)) rfl ?_; clear hE a; intro a hE
  have hl4 : laid 4 s.size = [UInt8.ofNat (s.size / 16777216), UInt8.ofNat (s.size / 65536), UInt8.ofNat (s.size / 256), UInt8.ofNat s.size] := by simp [laid, List.range_succ]
  refine s_buildSlice (xs := [.const (.int .u8 68), .const (.int .u8 1), .tmp 10, .tmp 13, .tmp 16, .tmp 18]) (bv [68, 1, UInt8.ofNat (s.size / 16777216), UInt8.ofNat (s.size / 65536), UInt8.ofNat (s.size / 256), UInt8.ofNat s.size]) hE hM sl22 rfl rfl rfl (by intro v hv; simp only [List.mem_cons, List.not_mem_nil, or_false] at hv; rcases hv with rfl | rfl | rfl | rfl | rfl | rfl <;> rfl) rfl rfl rfl rfl ?_; clear hE a; intro a v19 w1 hE hM'
  clear hM; have hM := hM'; clear hM'
  replace hM := hM.ownEq (m' := (68 :: 1 :: laid 4 s.size ++ s.data.toList.take 0).length) (cs' := bv (68 :: 1 :: laid 4 s.size ++ s.data.toList.take 0)) (by simp) (by rw [hl4]; simp)
  refine s_assign hE rfl rfl ?_; clear hE a; intro a hE
  refine q_nil ?_
  replace hE : Env a 32 [(0, _), (2, _), (3, _), (4, _)] := hE.sel [0, 2, 3, 4] rfl
  refine hK3 _ _ ?_
  refine wp_seq_k (fun K4 hK4 => ?_)
  refine wp_seq_k (fun K5 hK5 => ?_)
  refine wp_plain [true] rfl rfl ?_
  refine s_assign hE rfl rfl ?_; clear hE a; intro a hE
  refine q_nil ?_
  refine hK5 _ _ ?_
  refine wp_block ?_
  refine c_loop (fun (i : Nat) a w' => i ≤ s.size ∧ ∃ vo, Env a 32 [(0, .string s), (3, .int .i64 (s.size : Int)), (4, vo), (5, .int .i64 (i : Int))] ∧ Mem w [] w' [own vo 1 (68 :: 1 :: laid 4 s.size ++ s.data.toList.take i).length (bv (68 :: 1 :: laid 4 s.size ++ s.data.toList.take i))]) (fun i => s.size - i) 0 ⟨Nat.zero_le _, _, hE.sel [0, 3, 4, 5] rfl, hM⟩ ?_
  clear hE hM a; rintro i a w2 ⟨hi, vo, hE, hM⟩
  refine wp_seq_k (fun K6 hK6 => ?_)
  refine wp_seq_k (fun K7 hK7 => ?_)
  refine wp_plain [true, true, true] rfl rfl ?_
  refine s_move hE rfl rfl ?_; clear hE a; intro a hE
  refine s_move hE rfl rfl ?_; clear hE a; intro a hE
  refine s_bin hE rfl rfl bin_lss rfl ?_; clear hE a; intro a hE
  refine q_nil ?_
  replace hE : Env a 32 [(0, _), (3, _), (4, _), (5, _), (22, _)] := hE.sel [0, 3, 4, 5, 22] rfl
  refine hK7 _ _ ?_
  refine hE.split 22 rfl (fun hb22 hE' => ?_) (fun hb22 hE' => ?_)
  · replace hE := hE'; clear hE'
    replace hb22 := of_decide_eq_true hb22
    replace hb22 : i < s.size := by omega
    have hi4 : i < s.data.toList.length := hb22
    refine wp_cond_true (hE.eval rfl) ?_
    refine wp_skip ?_
    refine hK6 _ _ ?_
    refine wp_seq_k (fun K8 hK8 => ?_)
    refine wp_block ?_
    refine wp_plain [true, true, true, true, false, false, true] rfl rfl ?_
    refine s_move hE rfl rfl ?_; clear hE a; intro a hE
    refine s_move hE rfl rfl ?_; clear hE a; intro a hE
    refine s_move hE rfl rfl ?_; clear hE a; intro a hE
    refine s_indexStr (j := i) (b := s.data.toList.getD i 0) (l := s.data.toList) hE rfl rfl Tryd.underlying9 rfl (by first | rfl | omega) (get_getD hi4) rfl ?_; clear hE a; intro a hE
    refine s_buildSlice (xs := [.tmp 28]) (bv [s.data.toList.getD i 0]) hE hM sl22 rfl rfl rfl (by intro v hv; simp at hv; subst hv; rfl) rfl rfl rfl rfl ?_; clear hE a; intro a v29 w3 hE hM'
    clear hM; have hM := hM'; clear hM'
    replace hM : Mem _ _ w3 [_, _] := hM.pick [1, 0] rfl
    obtain ⟨cy, hy⟩ := own_rd (hM.get 1 rfl)
    refine s_append hE rfl rfl hM sl22 (Src.rd Tryd.underlying22 hy (bv_one _)) (len47 (by simp; omega)) (by simp; omega) (by intro X h; cases h) rfl ?_; clear hE a hy; intro a v30 w4 hE hM'
    clear hM; have hM := hM'; clear hM'
    replace hM : Mem _ _ w4 [_] := hM.pick [0] rfl
    replace hM := hM.ownEq (m' := (68 :: 1 :: laid 4 s.size ++ s.data.toList.take (i + 1)).length) (cs' := bv (68 :: 1 :: laid 4 s.size ++ s.data.toList.take (i + 1))) (by rw [take_snoc hi4]; simp; omega) (by rw [take_snoc hi4, ← List.append_assoc]; exact (bv_append _ _).symm)
    refine s_assign hE rfl rfl ?_; clear hE a; intro a hE
    refine q_nil ?_
    replace hE : Env a 32 [(0, _), (3, _), (4, _), (5, _), (22, _)] := hE.sel [0, 3, 4, 5, 22] rfl
    refine q_block_n ?_
    refine hK8 _ _ ?_
    refine wp_plain [true, true, true] rfl rfl ?_
    refine s_move hE rfl rfl ?_; clear hE a; intro a hE
    refine s_bin hE rfl rfl (bin_add (wrap_i64 (by omega) (by omega))) rfl ?_; clear hE a; intro a hE
    refine s_assign hE rfl rfl ?_; clear hE a; intro a hE
    refine q_nil ?_
    replace hE : Env a 32 [(0, _), (3, _), (4, _), (5, _), (22, _)] := hE.sel [0, 3, 4, 5, 22] rfl
    replace hE := hE.cast 5 rfl (show _ = Value.int .i64 ((i + 1 : Nat) : Int) from congrArg _ (by omega))
    exact ⟨i + 1, ⟨by omega, _, hE.sel [0, 3, 4, 5] rfl, hM⟩, by omega⟩
  · replace hE := hE'; clear hE'
    replace hb22 := of_decide_eq_false hb22
    replace hb22 : ¬ i < s.size := by omega
    obtain rfl : i = s.size := by omega
    rw [List.take_of_length_le (Nat.le_of_eq hsz)] at hM
    refine wp_cond_false (hE.eval rfl) ?_
    refine wp_exit ?_
    refine q_then_e ?_
    refine q_then_e ?_
    refine q_block_x ?_
    refine hK4 _ _ ?_
    refine wp_seq_k (fun K8 hK8 => ?_)
    refine wp_plain [true, true] rfl rfl ?_
    refine s_move hE rfl rfl ?_; clear hE a; intro a hE
    refine s_assign hE rfl rfl ?_; clear hE a; intro a hE
    refine q_nil ?_
    replace hE : Env a 32 [(0, _), (2, _), (3, _), (4, _), (5, _), (22, _)] := hE.sel [0, 2, 3, 4, 5, 22] rfl
    refine hK8 _ _ ?_
    refine wp_ret ?_
    refine f_ret1 hE rfl rfl ?_
    rw [rowL_eq, hsz]; exact ⟨_, rfl, hM⟩
theorem copy_set {b : List UInt8} {i n : Nat} (h : i < b.length) (hn : b.length = n) : (b.take i ++ List.replicate (n - i) 0).set i (b.getD i 0) = b.take (i + 1) ++ List.replicate (n - (i + 1)) 0 := by
  have hl : (b.take i).length = i := by simp; omega
  obtain ⟨k, hk⟩ : ∃ k, n - i = k + 1 := ⟨n - i - 1, by omega⟩
  rw [hk, show n - (i + 1) = k by omega, List.replicate_succ, List.set_append_right _ _ (by omega), hl, Nat.sub_self, List.set_cons_zero, take_snoc h, List.append_assoc]
  rfl
theorem rsub_c (key : List UInt8) (s : ByteArray) (w : World) (hk : key.length = 32) (hs : s.size ≤ 1000000) : Calls Tryd.prog 29 #[.agg (bv key).toArray, .string s] w fun e w' => e = .returned (.agg (bv (subW key s.data.toList)).toArray) ∧ Mem w [] w' [] := by
  have hM := Mem.start0 w
  have hsz : s.data.toList.length = s.size := rfl
  refine f_enter 34 Tryd.func29 rfl rfl rfl ?_
  intro a hE
  replace hE : Env a 34 [(0, _), (1, _)] := hE
  refine wp_seq_k (fun K1 hK1 => ?_)
  refine wp_plain [false, false] rfl rfl ?_
  refine s_box (ss := [bv key]) [32] hE hM rfl (by simp [Value.cells]) (by simp [hk]) rfl ?_; clear hE a; intro a b2 w1 hE hM'
  clear hM; have hM := hM'; clear hM'
  refine s_alloc [32] hE hM zero46 rfl rfl ?_; clear hE a; intro a b4 w2 hE hM'
  clear hM; have hM := hM'; clear hM'
  refine q_nil ?_
  replace hE : Env a 34 [(1, _), (2, _), (4, _)] := hE.sel [1, 2, 4] rfl
  refine hK1 _ _ ?_
  refine wp_seq_k (fun K2 hK2 => ?_)
  refine wp_plain [true] rfl rfl ?_
  refine s_assign hE rfl rfl ?_; clear hE a; intro a hE
  replace hM := hM.addNil 1
  refine q_nil ?_
  refine hK2 _ _ ?_
  refine wp_seq_k (fun K3 hK3 => ?_)
  refine wp_seq_k (fun K4 hK4 => ?_)
  refine wp_plain [true] rfl rfl ?_
  refine s_assign hE rfl rfl ?_; clear hE a; intro a hE
  refine q_nil ?_
  refine hK4 _ _ ?_
  refine wp_block ?_
  replace hM : Mem _ _ w2 [_, _, _] := hM.pick [0, 2, 1] rfl
  refine c_loop (fun (i : Nat) a w' => i ≤ 32 ∧ ∃ vk, Env a 34 [(1, .string s), (2, .pointer (some ⟨b2, 0, none⟩)), (4, .pointer (some ⟨b4, 0, none⟩)), (5, vk), (6, .int .i64 (i : Int))] ∧ Mem w [] w' [own vk 1 (key.take i).length (bv (key.take i)), blk b2 [bv key] [32] 46, blk b4 [bv (List.replicate 32 0)] [32] 46]) (fun i => 32 - i) 0 ⟨Nat.zero_le _, _, hE.sel [1, 2, 4, 5, 6] rfl, hM⟩ ?_
  clear hE hM a; rintro i a w3 ⟨hi, vk, hE, hM⟩
  refine wp_seq_k (fun K5 hK5 => ?_)
  refine wp_seq_k (fun K6 hK6 => ?_)
  refine wp_plain [true, true] rfl rfl ?_
  refine s_move hE rfl rfl ?_; clear hE a; intro a hE
  refine s_bin hE rfl rfl bin_lss rfl ?_; clear hE a; intro a hE
  refine q_nil ?_
  replace hE : Env a 34 [(1, _), (2, _), (4, _), (5, _), (6, _), (11, _)] := hE.sel [1, 2, 4, 5, 6, 11] rfl
  refine hK6 _ _ ?_
  refine hE.split 11 rfl (fun hb11 hE' => ?_) (fun hb11 hE' => ?_)
  · replace hE := hE'; clear hE'
    replace hb11 := of_decide_eq_true hb11
    replace hb11 : i < 32 := by omega
    
    refine wp_cond_true (hE.eval rfl) ?_
    refine wp_skip ?_
    refine hK5 _ _ ?_
    refine wp_seq_k (fun K7 hK7 => ?_)
    refine wp_block ?_
    refine wp_plain [true, true, true, true, false, false, true] rfl rfl ?_
    refine s_move hE rfl rfl ?_; clear hE a; intro a hE
    refine s_move hE rfl rfl ?_; clear hE a; intro a hE
    refine s_indexArr (j := i) hE rfl rfl arr46 (by first | rfl | omega) (by first | omega | decide) rfl ?_; clear hE a; intro a hE
    refine s_loadIdx (j := i) hE rfl (by omega) (hM.get 1 rfl) (bv_get (by omega)) one5 (by intro X h; cases h) rfl ?_; clear hE a; intro a hE
    refine s_buildSlice (xs := [.tmp 17]) (bv [key.getD i 0]) hE hM sl22 rfl rfl rfl (by intro v hv; simp at hv; subst hv; rfl) rfl rfl rfl rfl ?_; clear hE a; intro a v18 w4 hE hM'
    clear hM; have hM := hM'; clear hM'
    replace hM : Mem _ _ w4 [_, _, _, _] := hM.pick [1, 0, 2, 3] rfl
    obtain ⟨cy, hy⟩ := own_rd (hM.get 1 rfl)
    refine s_append hE rfl rfl hM sl22 (Src.rd Tryd.underlying22 hy (bv_one _)) (len47 (by simp; omega)) (by simp; omega) (by intro X h; cases h) rfl ?_; clear hE a hy; intro a v19 w5 hE hM'
    clear hM; have hM := hM'; clear hM'
    replace hM : Mem _ _ w5 [_, _, _] := hM.pick [0, 2, 3] rfl
    replace hM := hM.ownEq (m' := (key.take (i + 1)).length) (cs' := bv (key.take (i + 1))) (by simp; omega) (by rw [take_snoc (by omega), bv_append])
    refine s_assign hE rfl rfl ?_; clear hE a; intro a hE
    refine q_nil ?_
    replace hE : Env a 34 [(1, _), (2, _), (4, _), (5, _), (6, _), (11, _)] := hE.sel [1, 2, 4, 5, 6, 11] rfl
    refine q_block_n ?_
    refine hK7 _ _ ?_
    refine wp_plain [true, true, true] rfl rfl ?_
    refine s_move hE rfl rfl ?_; clear hE a; intro a hE
    refine s_bin hE rfl rfl (bin_add (wrap_i64 (by omega) (by omega))) rfl ?_; clear hE a; intro a hE
    refine s_assign hE rfl rfl ?_; clear hE a; intro a hE
    refine q_nil ?_
    replace hE : Env a 34 [(1, _), (2, _), (4, _), (5, _), (6, _), (11, _)] := hE.sel [1, 2, 4, 5, 6, 11] rfl
    replace hE := hE.cast 6 rfl (show _ = Value.int .i64 ((i + 1 : Nat) : Int) from congrArg _ (by omega))
    exact ⟨i + 1, ⟨by omega, _, hE.sel [1, 2, 4, 5, 6] rfl, hM⟩, by omega⟩
  · replace hE := hE'; clear hE'
    replace hb11 := of_decide_eq_false hb11
    replace hb11 : ¬ i < 32 := by omega
    obtain rfl : i = 32 := by omega
    rw [List.take_of_length_le (Nat.le_of_eq hk)] at hM
    refine wp_cond_false (hE.eval rfl) ?_
    refine wp_exit ?_
    refine q_then_e ?_
    refine q_then_e ?_
    refine q_block_x ?_
    refine hK3 _ _ ?_
    refine wp_seq_k (fun K7 hK7 => ?_)
    refine wp_plain [true, true, false, false, false, false] rfl rfl ?_
    refine s_move hE rfl rfl ?_; clear hE a; intro a hE
    refine s_move hE rfl rfl ?_; clear hE a; intro a hE
    refine s_call hE rfl Tryd.call38 (rrow_c s _ hs) rfl ?_
    rintro e w4 ⟨vr, rfl, hN⟩
    refine ⟨_, rfl, trivial, ?_⟩; clear hE a; intro a hE
    replace hM : Mem _ _ w4 [_, _, _, _] := hM.call0 hN ⟨rfl, trivial⟩; clear hN
    obtain ⟨ck, hk1⟩ := own_rd (hM.get 1 rfl)
    obtain ⟨cr, hr⟩ := own_rd (hM.get 0 rfl)
    refine s_call hE rfl Tryd.call37 (rof_c _ _ key (rowL s.data.toList) _ _ _ hk1 hr (by omega) (by rw [rowL_eq]; simp [hsz]; omega)) rfl ?_
    rintro e w5 ⟨rfl, hN⟩
    refine ⟨_, rfl, trivial, ?_⟩; clear hE a; intro a hE
    replace hM : Mem _ _ w5 [_, _, _, _] := hM.call0 hN trivial; clear hN
    refine s_alloc [32] hE hM zero42 rfl rfl ?_; clear hE a; intro a b7 w6 hE hM'
    clear hM; have hM := hM'; clear hM'
    refine s_storeSeg 0 hE rfl rfl hM rfl sz42 (by simp) (bv_one _) rfl (by simp) rfl (by intro X h; cases h) ?_; intro w7 hM'; clear hM; have hM := hM'; clear hM'
    simp only [List.set_cons_zero, List.set_cons_succ] at hM
    refine q_nil ?_
    replace hE : Env a 34 [(2, _), (4, _), (5, _), (6, _), (7, _), (11, _)] := hE.sel [2, 4, 5, 6, 7, 11] rfl
    refine hK7 _ _ ?_
    refine wp_seq_k (fun K8 hK8 => ?_)
    refine wp_plain [false] rfl rfl ?_
    refine s_alloc [32] hE hM zero46 rfl rfl ?_; clear hE a; intro a b8 w8 hE hM'
    clear hM; have hM := hM'; clear hM'
    refine q_nil ?_
    refine hK8 _ _ ?_
    refine wp_seq_k (fun K9 hK9 => ?_)
    refine wp_seq_k (fun K10 hK10 => ?_)
    refine wp_plain [true] rfl rfl ?_
    refine s_assign hE rfl rfl ?_; clear hE a; intro a hE
    refine q_nil ?_
    refine hK10 _ _ ?_
    refine wp_block ?_
    replace hM : Mem _ _ w8 [_, _, _, _, _, _] := hM.pick [0, 1, 5, 2, 3, 4] rfl
    replace hM : Mem _ _ w8 [_, _, _] := hM.pick [0, 1, 2] rfl
    refine c_loop (fun (k : Nat) a w' => k ≤ 32 ∧ Env a 34 [(4, .pointer (some ⟨b4, 0, none⟩)), (7, .pointer (some ⟨b7, 0, none⟩)), (8, .pointer (some ⟨b8, 0, none⟩)), (9, .int .i64 (k : Int))] ∧ Mem w [] w' [blk b8 [bv ((subW key s.data.toList).take k ++ List.replicate (32 - k) 0)] [32] 46, blk b7 [bv (subW key s.data.toList)] [32] 42, blk b4 [bv (List.replicate 32 0)] [32] 46]) (fun k => 32 - k) 0 ⟨Nat.zero_le _, hE.sel [4, 7, 8, 9] rfl, hM⟩ ?_
    clear hE hM a; rintro k a w9 ⟨hk2, hE, hM⟩
    refine wp_seq_k (fun K11 hK11 => ?_)
    refine wp_seq_k (fun K12 hK12 => ?_)
    refine wp_plain [true, true] rfl rfl ?_
    refine s_move hE rfl rfl ?_; clear hE a; intro a hE
    refine s_bin hE rfl rfl bin_lss rfl ?_; clear hE a; intro a hE
    refine q_nil ?_
    replace hE : Env a 34 [(4, _), (7, _), (8, _), (9, _), (25, _)] := hE.sel [4, 7, 8, 9, 25] rfl
    refine hK12 _ _ ?_
    refine hE.split 25 rfl (fun hb25 hE' => ?_) (fun hb25 hE' => ?_)
    · replace hE := hE'; clear hE'
      replace hb25 := of_decide_eq_true hb25
      replace hb25 : k < 32 := by omega
      
      refine wp_cond_true (hE.eval rfl) ?_
      refine wp_skip ?_
      refine hK11 _ _ ?_
      refine wp_seq_k (fun K13 hK13 => ?_)
      refine wp_block ?_
      refine wp_plain [true, true, true, true, true, false] rfl rfl ?_
      refine s_move hE rfl rfl ?_; clear hE a; intro a hE
      refine s_move hE rfl rfl ?_; clear hE a; intro a hE
      refine s_indexArr (j := k) hE rfl rfl arr42 (by first | rfl | omega) (by first | omega | decide) rfl ?_; clear hE a; intro a hE
      refine s_loadIdx (j := k) hE rfl (by omega) (hM.get 1 rfl) (bv_get (by simp; omega)) one5 (by intro X h; cases h) rfl ?_; clear hE a; intro a hE
      refine s_indexArr (j := k) hE rfl rfl arr46 (by first | rfl | omega) (by first | omega | decide) rfl ?_; clear hE a; intro a hE
      refine s_storeIdx (j := k) hE rfl (by omega) rfl hM rfl rfl sz5 (by simp; omega) (by intro X h; cases h) ?_; intro w10 hM'; clear hM; have hM := hM'; clear hM'
      first | rw [bv_set'] at hM | rw [bv_setI] at hM
      refine q_nil ?_
      replace hE : Env a 34 [(4, _), (7, _), (8, _), (9, _), (25, _)] := hE.sel [4, 7, 8, 9, 25] rfl
      refine q_block_n ?_
      refine hK13 _ _ ?_
      refine wp_plain [true, true, true] rfl rfl ?_
      refine s_move hE rfl rfl ?_; clear hE a; intro a hE
      refine s_bin hE rfl rfl (bin_add (wrap_i64 (by omega) (by omega))) rfl ?_; clear hE a; intro a hE
      refine s_assign hE rfl rfl ?_; clear hE a; intro a hE
      refine q_nil ?_
      replace hE : Env a 34 [(4, _), (7, _), (8, _), (9, _), (25, _)] := hE.sel [4, 7, 8, 9, 25] rfl
      replace hE := hE.cast 9 rfl (show _ = Value.int .i64 ((k + 1 : Nat) : Int) from congrArg _ (by omega))
      rw [copy_set (by simpa using hb25) (by simp)] at hM
      exact ⟨k + 1, ⟨by omega, hE.sel [4, 7, 8, 9] rfl, hM⟩, by omega⟩
    · replace hE := hE'; clear hE'
      replace hb25 := of_decide_eq_false hb25
      replace hb25 : ¬ k < 32 := by omega
      obtain rfl : k = 32 := by omega
      refine wp_cond_false (hE.eval rfl) ?_
      refine wp_exit ?_
      refine q_then_e ?_
      refine q_then_e ?_
      refine q_block_x ?_
      refine hK9 _ _ ?_
      refine wp_seq_k (fun K13 hK13 => ?_)
      refine wp_plain [true, false] rfl rfl ?_
      refine s_loadN hE rfl (hM.get 0 rfl) row46 rfl (by intro X h; cases h) rfl ?_; clear hE a; intro a hE
      replace hM : Mem _ _ w9 [_, _, _] := hM.pick [2, 0, 1] rfl
      refine s_storeSeg 0 hE rfl rfl hM rfl sz46 (by simp) (bv_one _) rfl (by simp) rfl (by intro X h; cases h) ?_; intro w10 hM'; clear hM; have hM := hM'; clear hM'
      simp only [List.set_cons_zero, List.set_cons_succ] at hM
      refine q_nil ?_
      replace hE : Env a 34 [(4, _), (7, _), (8, _), (9, _), (25, _)] := hE.sel [4, 7, 8, 9, 25] rfl
      refine hK13 _ _ ?_
      refine wp_ret ?_
      refine f_ret1 hE rfl (res_cellN rfl (hM.get 0 rfl) row46 rfl) ?_
      exact ⟨by rw [List.take_of_length_le (by simp), show List.replicate (32 - 32) (0 : UInt8) = [] from rfl, List.append_nil], hM.nil⟩
theorem deriveSets_c (ka kv : List UInt8) (w : World) (hG : (glb 0).holds w) (ha : ka.length = 32) (hv : kv.length = 32) : Calls Tryd.prog 11 #[.agg (bv ka).toArray, .agg (bv kv).toArray] w fun e w' => e = .returned (.bool true) ∧ Mem w [] w' [] := by
  have hM := Mem.startR1 hG rfl
  refine f_enter 49 Tryd.func11 rfl rfl rfl ?_
  intro a hE
  replace hE : Env a 49 [(0, _), (1, _)] := hE
  refine wp_seq_k (fun K1 hK1 => ?_)
  refine wp_plain [false, false, true] rfl rfl ?_
  refine s_box (ss := [bv ka]) [32] hE hM rfl (by simp [Value.cells]) (by simp [ha]) rfl ?_; clear hE a; intro a b2 w1 hE hM'
  clear hM; have hM := hM'; clear hM'
  refine s_box (ss := [bv kv]) [32] hE hM rfl (by simp [Value.cells]) (by simp [hv]) rfl ?_; clear hE a; intro a b3 w2 hE hM'
  clear hM; have hM := hM'; clear hM'
  refine s_assign hE rfl rfl ?_; clear hE a; intro a hE
  refine q_nil ?_
  replace hE : Env a 49 [(2, _), (3, _), (4, _)] := hE.sel [2, 3, 4] rfl
  refine hK1 _ _ ?_
  refine wp_seq_k (fun K2 hK2 => ?_)
  refine wp_plain [true, false, false, false] rfl rfl ?_
  refine s_loadN hE rfl (hM.get 1 rfl) row46 rfl (by intro X h; cases h) rfl ?_; clear hE a; intro a hE
  refine s_call hE rfl Tryd.call25 (setof_c ka _ (hM.get 2 rfl) ha) rfl ?_
  rintro e w3 ⟨rfl, hN⟩
  refine ⟨_, rfl, trivial, ?_⟩; clear hE a; intro a hE
  replace hM : Mem _ _ w3 [_, _, _] := hM.call0 hN trivial; clear hN
  refine s_alloc [32, 32, 32] hE hM zero48 rfl rfl ?_; clear hE a; intro a b5 w4 hE hM'
  clear hM; have hM := hM'; clear hM'
  refine s_storeSegs 0 3 (vss := [bv (subW ka [116, 114, 101, 101]), bv (subW ka [114, 111, 111, 116]), bv (subW ka [104, 101, 97, 100])]) hE rfl rfl hM rfl sz48 (by simp) (by decide) rfl (by intro v hv; simp at hv; rcases hv with hv | hv | hv <;> exact bv_one _ v hv) rfl (by intro X h; cases h) ?_; intro w5 hM'; clear hM; have hM := hM'; clear hM'
  simp only [List.take_zero, List.take_succ_cons, List.drop_zero, List.drop_succ_cons, List.take_nil, List.drop_nil, List.nil_append, List.append_nil, List.cons_append] at hM
  refine q_nil ?_
  replace hE : Env a 49 [(2, _), (3, _), (4, _), (5, _)] := hE.sel [2, 3, 4, 5] rfl
  refine hK2 _ _ ?_
  refine wp_seq_k (fun K3 hK3 => ?_)
  refine wp_plain [true, false, true, true, true, false, false, false, false] rfl rfl ?_
  refine s_loadN hE rfl (hM.get 1 rfl) row46 rfl (by intro X h; cases h) rfl ?_; clear hE a; intro a hE
  refine s_call hE rfl Tryd.call26 (pair_c kv _ (hM.get 3 rfl) hv) rfl ?_
  rintro e w6 ⟨rfl, hN⟩
  refine ⟨_, rfl, trivial, ?_⟩; clear hE a; intro a hE
  replace hM : Mem _ _ w6 [_, _, _, _] := hM.call0 hN trivial; clear hN
  refine s_move hE rfl rfl ?_; clear hE a; intro a hE
  refine s_extract hE rfl rfl rfl ?_; clear hE a; intro a hE
  refine s_extract hE rfl rfl rfl ?_; clear hE a; intro a hE
  refine s_alloc [32] hE hM zero46 rfl rfl ?_; clear hE a; intro a b6 w7 hE hM'
  clear hM; have hM := hM'; clear hM'
  refine s_alloc [32] hE hM zero46 rfl rfl ?_; clear hE a; intro a b7 w8 hE hM'
  clear hM; have hM := hM'; clear hM'
  replace hM : Mem _ _ w8 [_, _, _, _, _, _] := hM.pick [1, 0, 2, 3, 4, 5] rfl
  refine s_storeSeg 0 hE rfl rfl hM rfl sz46 (by simp) (bv_one _) rfl (by simp) rfl (by intro X h; cases h) ?_; intro w9 hM'; clear hM; have hM := hM'; clear hM'
  simp only [List.set_cons_zero, List.set_cons_succ] at hM
  replace hM : Mem _ _ w9 [_, _, _, _, _, _] := hM.pick [1, 0, 2, 3, 4, 5] rfl
  refine s_storeSeg 0 hE rfl rfl hM rfl sz46 (by simp) (bv_one _) rfl (by simp) rfl (by intro X h; cases h) ?_; intro w10 hM'; clear hM; have hM := hM'; clear hM'
  simp only [List.set_cons_zero, List.set_cons_succ] at hM
  refine q_nil ?_
  replace hE : Env a 49 [(2, _), (3, _), (4, _), (5, _), (6, _), (7, _)] := hE.sel [2, 3, 4, 5, 6, 7] rfl
  refine hK3 _ _ ?_
  refine wp_seq_k (fun K4 hK4 => ?_)
  refine wp_drawnM hM (by kernel_rfl) (fun _ => False) [(0, true), (1, true), (2, true), (3, false), (4, true), (5, true), (6, true), (7, true), (8, true), (9, false), (10, true), (11, true), (12, true), (13, true), (14, true), (15, true), (16, false), (17, true), (18, true), (19, true), (20, true), (21, true), (22, false), (23, true), (24, true), (25, true), (26, true), (27, true), (28, false), (29, true), (30, true), (31, true), (32, false), (33, true), (34, true)] [(3, [(4, 3), (5, 3), (6, 5), (7, 5), (8, 5), (9, 8), (10, 9), (11, 10), (12, 9), (13, 12), (14, 12), (15, 12), (16, 12), (17, 16), (18, 17), (19, 16), (20, 19), (21, 19), (22, 19), (23, 19), (24, 19), (25, 24), (26, 25), (27, 25), (28, 25), (29, 25), (30, 25), (31, 28), (32, 31), (33, 32), (34, 3)]), (9, [(10, 9), (11, 10), (12, 9), (13, 12), (14, 12), (15, 12), (16, 12), (17, 16), (18, 17), (19, 16), (20, 19), (21, 19), (22, 19), (23, 19), (24, 19), (25, 24), (26, 25), (27, 25), (28, 25), (29, 25), (30, 25), (31, 28), (32, 31), (33, 32), (34, 9)]), (16, [(17, 16), (18, 17), (19, 16), (20, 19), (21, 19), (22, 19), (23, 19), (24, 19), (25, 24), (26, 25), (27, 25), (28, 25), (29, 25), (30, 25), (31, 28), (32, 31), (33, 32), (34, 16)]), (22, [(23, 22), (24, 23), (25, 22), (26, 25), (27, 25), (28, 25), (29, 25), (30, 25), (31, 28), (32, 31), (33, 32), (34, 22)]), (28, [(29, 28), (30, 29), (31, 28), (32, 31), (33, 32), (34, 28)]), (32, [(33, 32), (34, 32)])] (by kernel_rfl) rfl ?_
  intro w11 hM' hww11; clear hM; have hM := hM'; clear hM'
  refine s_fieldAddr hE rfl fo48_0 rfl ?_; clear hE a; intro a hE
  refine s_loadN hE rfl (hM.get 2 rfl) row46 rfl (by intro X h; cases h; simp) rfl ?_; clear hE a; intro a hE
  refine s_loadN hE rfl (hM.get 4 rfl) row46 rfl (by intro X h; cases h; simp) rfl ?_; clear hE a; intro a hE
  refine s_call hE rfl Tryd.call29 ((by have h := rsub_c ka (tx [116, 114, 101, 101]) w11 ha (by decide); rw [tx_list] at h; exact h)) rfl ?_
  rintro e w12 ⟨rfl, hN⟩
  refine ⟨_, rfl, hN.sta0 _, ?_⟩; clear hE a; intro a hE
  replace hM : Mem _ _ w12 [_, _, _, _, _, _] := hM.call0 hN trivial; clear hN
  refine s_bin hE rfl rfl (eqa46 (by first | simp | assumption) (by first | simp | assumption)).1 rfl ?_; clear hE a; intro a hE
  refine s_move hE rfl rfl ?_; clear hE a; intro a hE
  replace hE := hE.cast 20 rfl (show _ = Value.bool true from (congrArg Value.bool (by first | exact decide_eq_true rfl | rfl)))
  refine g_yes hE rfl rfl ?_
  refine s_fieldAddr hE rfl fo48_1 rfl ?_; clear hE a; intro a hE
  refine g_yes hE rfl rfl ?_
  refine s_loadN hE rfl (hM.get 2 rfl) row46 rfl (by intro X h; cases h; simp) rfl ?_; clear hE a; intro a hE
  refine g_yes hE rfl rfl ?_
  refine s_loadN hE rfl (hM.get 4 rfl) row46 rfl (by intro X h; cases h; simp) rfl ?_; clear hE a; intro a hE
  refine g_yes hE rfl rfl ?_
  refine s_call hE rfl Tryd.call29 ((by have h := rsub_c ka (tx [114, 111, 111, 116]) w12 ha (by decide); rw [tx_list] at h; exact h)) rfl ?_
  rintro e w13 ⟨rfl, hN⟩
  refine ⟨_, rfl, hN.sta0 _, ?_⟩; clear hE a; intro a hE
  replace hM : Mem _ _ w13 [_, _, _, _, _, _] := hM.call0 hN trivial; clear hN
  refine g_yes hE rfl rfl ?_
  refine s_bin hE rfl rfl (eqa46 (by first | simp | assumption) (by first | simp | assumption)).1 rfl ?_; clear hE a; intro a hE
  refine s_pickt hE rfl rfl rfl ?_; clear hE a; intro a hE
  refine s_move hE rfl rfl ?_; clear hE a; intro a hE
  replace hE := hE.cast 27 rfl (show _ = Value.bool true from (congrArg Value.bool (by first | exact decide_eq_true rfl | rfl)))
  refine g_yes hE rfl rfl ?_
  refine s_fieldAddr hE rfl fo48_2 rfl ?_; clear hE a; intro a hE
  refine g_yes hE rfl rfl ?_
  refine s_loadN hE rfl (hM.get 2 rfl) row46 rfl (by intro X h; cases h; simp) rfl ?_; clear hE a; intro a hE
  refine g_yes hE rfl rfl ?_
  refine s_loadN hE rfl (hM.get 4 rfl) row46 rfl (by intro X h; cases h; simp) rfl ?_; clear hE a; intro a hE
  refine g_yes hE rfl rfl ?_
  refine s_call hE rfl Tryd.call29 ((by have h := rsub_c ka (tx [104, 101, 97, 100]) w13 ha (by decide); rw [tx_list] at h; exact h)) rfl ?_
  rintro e w14 ⟨rfl, hN⟩
  refine ⟨_, rfl, hN.sta0 _, ?_⟩; clear hE a; intro a hE
  replace hM : Mem _ _ w14 [_, _, _, _, _, _] := hM.call0 hN trivial; clear hN
  refine g_yes hE rfl rfl ?_
  refine s_bin hE rfl rfl (eqa46 (by first | simp | assumption) (by first | simp | assumption)).1 rfl ?_; clear hE a; intro a hE
  refine s_pickt hE rfl rfl rfl ?_; clear hE a; intro a hE
  refine s_move hE rfl rfl ?_; clear hE a; intro a hE
  replace hE := hE.cast 34 rfl (show _ = Value.bool true from (congrArg Value.bool (by first | exact decide_eq_true rfl | rfl)))
  refine g_yes hE rfl rfl ?_
  refine s_loadN hE rfl (hM.get 1 rfl) row46 rfl (by intro X h; cases h; simp) rfl ?_; clear hE a; intro a hE
  refine g_yes hE rfl rfl ?_
  refine s_loadN hE rfl (hM.get 3 rfl) row46 rfl (by intro X h; cases h; simp) rfl ?_; clear hE a; intro a hE
  refine g_yes hE rfl rfl ?_
  refine s_call hE rfl Tryd.call29 ((by have h := rsub_c kv (tx [100, 97, 116, 97]) w14 hv (by decide); rw [tx_list] at h; exact h)) rfl ?_
  rintro e w15 ⟨rfl, hN⟩
  refine ⟨_, rfl, hN.sta0 _, ?_⟩; clear hE a; intro a hE
  replace hM : Mem _ _ w15 [_, _, _, _, _, _] := hM.call0 hN trivial; clear hN
  refine g_yes hE rfl rfl ?_
  refine s_bin hE rfl rfl (eqa46 (by first | simp | assumption) (by first | simp | assumption)).1 rfl ?_; clear hE a; intro a hE
  refine s_pickt hE rfl rfl rfl ?_; clear hE a; intro a hE
  refine s_move hE rfl rfl ?_; clear hE a; intro a hE
  replace hE := hE.cast 40 rfl (show _ = Value.bool true from (congrArg Value.bool (by first | exact decide_eq_true rfl | rfl)))
  refine g_yes hE rfl rfl ?_
  refine s_loadN hE rfl (hM.get 0 rfl) row46 rfl (by intro X h; cases h; simp) rfl ?_; clear hE a; intro a hE
  refine g_yes hE rfl rfl ?_
  refine s_loadN hE rfl (hM.get 3 rfl) row46 rfl (by intro X h; cases h; simp) rfl ?_; clear hE a; intro a hE
  refine g_yes hE rfl rfl ?_
  refine s_call hE rfl Tryd.call29 ((by have h := rsub_c kv (tx [116, 119, 101, 97, 107]) w15 hv (by decide); rw [tx_list] at h; exact h)) rfl ?_
  rintro e w16 ⟨rfl, hN⟩
  refine ⟨_, rfl, hN.sta0 _, ?_⟩; clear hE a; intro a hE
  replace hM : Mem _ _ w16 [_, _, _, _, _, _] := hM.call0 hN trivial; clear hN
  refine g_yes hE rfl rfl ?_
  refine s_bin hE rfl rfl (eqa46 (by first | simp | assumption) (by first | simp | assumption)).1 rfl ?_; clear hE a; intro a hE
  refine s_pickt hE rfl rfl rfl ?_; clear hE a; intro a hE
  refine s_move hE rfl rfl ?_; clear hE a; intro a hE
  replace hE := hE.cast 46 rfl (show _ = Value.bool true from (congrArg Value.bool (by first | exact decide_eq_true rfl | rfl)))
  refine g_yes hE rfl rfl ?_
  refine s_call hE rfl Tryd.call27 (awake9_c _ (hM.get 5 rfl)) rfl ?_
  rintro e w17 ⟨rfl, hN⟩
  refine ⟨_, rfl, hN.sta0 _, ?_⟩; clear hE a; intro a hE
  replace hM : Mem _ _ w17 [_, _, _, _, _, _] := hM.call0 hN trivial; clear hN
  refine s_pickt hE rfl rfl rfl ?_; clear hE a; intro a hE
  refine s_assign hE rfl rfl ?_; clear hE a; intro a hE
  refine q_nil ?_
  replace hE : Env a 49 [(2, _), (3, _), (4, _), (5, _), (6, _), (7, _)] := hE.sel [2, 3, 4, 5, 6, 7] rfl
  refine hK4 _ _ ?_
  refine wp_ret ?_
  refine f_ret1 hE rfl rfl ?_
  exact ⟨by simp, hM.nil⟩
set_option maxRecDepth 100000 in
theorem deriveSets_lifted (os : Os) (started : os.Started) (H : Type) (enc : TypeId × Value → H) :
    ReturnsInHanded {} Tryd.checked os 11 .any (fun w args => (Rows.deriveSetsSpec.pre enc Tryd.prog Tryd.f11 [] false w args ∧ laidMetH Tryd.prog Rows.deriveSetsRow.laid w) ∧ sizedMet enc Tryd.prog Tryd.f11 (OpenSpec.ofChange Rows.deriveSetsSpec) false w args) (Rows.deriveSetsSpec.post enc Tryd.prog Tryd.f11 false true false false) := by
  refine law_liftedL (C := Tryd.checked) (fn := Tryd.f11) (l := Rows.deriveSetsRow.laid) (by kernel_rfl) started (by kernel_rfl) Tryd.func11 rfl (fun ds hl => ?_) rfl Tryd.underlying4 (by kernel_rfl) (of_decide_eq_true (by kernel_rfl)) (by kernel_rfl)
    (ChangeSpec.witness_shaped (enc := enc) (C := Tryd.checked) (os := os) (X := fun w _ => laidMetH Tryd.prog Rows.deriveSetsRow.laid w) false (World.laidAll Tryd.prog os Rows.deriveSetsRow.laid) #[.agg (bv (List.replicate 32 0)).toArray, .agg (bv (List.replicate 32 0)).toArray] 8 (World.laidAll_os _ _ _) (World.shaped_of_ZipB (by kernel_rfl) (by kernel_rfl)) (by kernel_rfl) (by kernel_rfl) (by kernel_rfl) (by rw [MakeChecks.laidMetH_plain _ _ _ (by kernel_rfl)]; exact laidMet_laidAll _ (by kernel_rfl) (by kernel_rfl))) ?_
  · rw [Tryd.params11] at hl
    match ds, hl with
    | [_, _], _ => rfl
  · intro W base args ds ps hval hA hw hL
    have hG := glb_of_laid (P := Tryd.prog) (g := 0) (t := 98) (e := 74) (by kernel_rfl) (by kernel_rfl) Tryd.underlying98 Tryd.underlying74 (by kernel_rfl) (by kernel_rfl) (by kernel_rfl) (show laidMet Tryd.prog (_ :: _) W from hL)
    rw [Tryd.params11] at hA hval hw
    obtain ⟨v0, vs0, d0, ds0, p0, q0, hargs, rfl, rfl, h0, r0⟩ := trodAll_cons hA
    obtain ⟨v1, vs1, d1, ds1, p1, q1, rfl, rfl, rfl, h1, r1⟩ := trodAll_cons r0
    obtain ⟨rfl, rfl, rfl⟩ := trodAll_nil r1
    obtain rfl : args = #[v0, v1] := by cases args; simp_all
    obtain ⟨a0, rfl, ha0⟩ := arg_arr8 Tryd.underlying46 Tryd.underlying5 (by kernel_rfl) (by kernel_rfl) (hval 0 46 v0 rfl rfl) h0 (fun m hm => hw m (by simp only [DataW.weightsEach, List.mem_append]; exact .inl hm))
    obtain ⟨a1, rfl, ha1⟩ := arg_arr8 Tryd.underlying46 Tryd.underlying5 (by kernel_rfl) (by kernel_rfl) (hval 1 46 v1 rfl rfl) h1 (fun m hm => hw m (by simp only [DataW.weightsEach, List.mem_append]; exact .inr (.inl hm)))
    exact deriveSets_c a0 a1 W hG ha0 ha1

/-- The row's statement. -/
theorem deriveSets_row : Rows.DeriveSetsSaid :=
  OpenClaim.holds_of_wide 11 Tryd.f11 rfl rfl rfl rfl rfl rfl rfl ⟨rfl, rfl, rfl, rfl, rfl⟩ rfl rfl rfl rfl rfl (by kernel_rfl) Tryd.func11 (by kernel_rfl)
    (of_decide_eq_true (by kernel_rfl)) (by unfold Func.isWrapper; first | (rw [if_pos (by decide +kernel)]; kernel_rfl) | (rw [if_neg (by decide +kernel)]; exact ⟨rfl, rfl⟩))
    (fun os started H enc _ => deriveSets_lifted os started H enc)

/-- The statement: the row, its listed variable tied to the program's text. -/
theorem deriveSets_holds : Rows.DeriveSetsCardSaid :=
  Claim7.holds_tied_plain_at .later [] [.data] true (true, "6fc7720c1af2613af465590a04043e064699da455281c70e9b23793a063f4041") false
    deriveSets_row (fun _ h => by cases h) (by kernel_rfl) (fun _ h => by cases h) deriveSets_row_tie rfl ⟨rfl, rfl⟩ (by kernel_rfl) rfl
    (fun f fn hf hfn => by
      obtain rfl : f = 11 := Option.some.inj ((show Tryd.prog.funcNamed "casemate/casematelaw09.DeriveSets" = some 11 by kernel_rfl).symm.trans hf) |>.symm
      obtain rfl : fn = Tryd.f11 := (Option.some.inj (Tryd.func11.symm.trans hfn)).symm
      exact ⟨by kernel_rfl, fun j t ht => by
        rw [Tryd.params11] at ht
        have h : t ∈ [46, 46] := by
          rcases j with _ | _ | j
          · simp at ht; simp [ht]
          · simp at ht; simp [ht]
          · simp at ht
        simp only [List.mem_cons, List.not_mem_nil, or_false] at h
        rcases h with rfl | rfl
        · exact (show Tryd.prog.wantsStandIn 46 = false by kernel_rfl)
        · exact (show Tryd.prog.wantsStandIn 46 = false by kernel_rfl)⟩)
    (by kernel_rfl)
#print axioms deriveSets_holds
end Go.Proofs.YthagednepehliaaDoor
