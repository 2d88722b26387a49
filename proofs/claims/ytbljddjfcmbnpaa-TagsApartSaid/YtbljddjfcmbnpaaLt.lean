/- Walks of functions of the given program that the claim reaches. -/
import Derived.Test.YtbljddjfcmbnpaaLb
namespace Go.Proofs.Ytbljddjfcmbnpaa
open Go Go.Kx
theorem zero55 : Zero Try.prog 55 [bv (List.replicate 8 0)] := ⟨.agg ([bv (List.replicate 8 0)] : List (List Value)).flatten.toArray, by kernel_rfl, by kernel_rfl⟩
theorem arr55 : arrT Try.prog 55 = some (8, 1) := by kernel_rfl
theorem sz5 : (Try.prog.info? 5).map (·.size) = some 1 := by kernel_rfl
theorem arr23 : arrT Try.prog 23 = some (64, 1) := by kernel_rfl
theorem sl66 : SlT Try.prog 66 24 1 24 := ⟨Try.underlying66, by kernel_rfl, by kernel_rfl, .slice none 0 0, by kernel_rfl, rfl⟩
theorem row23 : RowT Try.prog 23 64 := RowT.of Try.underlying23 rfl (by kernel_rfl)
theorem zero23 : Zero Try.prog 23 [bv (List.replicate 64 0)] := ⟨.agg ([bv (List.replicate 64 0)] : List (List Value)).flatten.toArray, by kernel_rfl, by kernel_rfl⟩
theorem arr31 : arrT Try.prog 31 = some (32, 1) := by kernel_rfl
theorem sz23 : (Try.prog.info? 23).map (·.size) = some 64 := by kernel_rfl
theorem zero31 : Zero Try.prog 31 [bv (List.replicate 32 0)] := ⟨.agg ([bv (List.replicate 32 0)] : List (List Value)).flatten.toArray, by kernel_rfl, by kernel_rfl⟩
theorem row31 : RowT Try.prog 31 32 := RowT.of Try.underlying31 rfl (by kernel_rfl)
theorem sz31 : (Try.prog.info? 31).map (·.size) = some 32 := by kernel_rfl
theorem laid_set {k m i : Nat} (h : i < k) : ((laid k m).take i ++ List.replicate (k - i) (0 : UInt8)).set i (UInt8.ofNat (m / 2 ^ (8 * (k - 1 - i)))) = (laid k m).take (i + 1) ++ List.replicate (k - (i + 1)) 0 := by
  have hl : ((laid k m).take i).length = i := by simp; omega
  obtain ⟨j, hj⟩ : ∃ j, k - i = j + 1 := ⟨k - i - 1, by omega⟩
  rw [hj, show k - (i + 1) = j by omega, List.replicate_succ, List.set_append_right _ _ (by omega), hl, Nat.sub_self, List.set_cons_zero, laid_take_succ h, List.append_assoc]
  rfl
theorem numbered_c (dm : UInt8) (z : Int) (s : List UInt8) (w : World) (hs : s.length = 64) : Calls Try.prog 15 #[.int .u8 dm.toNat, .int .i64 z, .agg (bv s).toArray] w fun e w' => ∃ v', e = .returned v' ∧ Mem w [] w' [own v' 1 (numT dm z s).length (bv (numT dm z s))] := by
  have hM := Mem.start0 w
  refine f_enter 33 Try.func15 rfl rfl rfl ?_
  intro a hE
  replace hE : Env a 33 [(0, _), (1, _), (2, _)] := hE
  refine wp_seq_k (fun K1 hK1 => ?_)
  refine wp_plain [false, true] rfl rfl ?_
  refine s_box (ss := [bv s]) [64] hE hM rfl (by simp [Value.cells]) (by simp [hs]) rfl ?_; clear hE a; intro a b5 w1 hE hM'
  clear hM; have hM := hM'; clear hM'
  refine s_assign hE rfl rfl ?_; clear hE a; intro a hE
  refine q_nil ?_
  replace hE : Env a 33 [(0, _), (1, _), (5, _), (6, _)] := hE.sel [0, 1, 5, 6] rfl
  refine hK1 _ _ ?_
  refine wp_seq_k (fun K2 hK2 => ?_)
  refine wp_plain [false] rfl rfl ?_
  refine s_alloc [8] hE hM zero55 rfl rfl ?_; clear hE a; intro a b7 w2 hE hM'
  clear hM; have hM := hM'; clear hM'
  refine q_nil ?_
  refine hK2 _ _ ?_
  refine wp_seq_k (fun K3 hK3 => ?_)
  refine wp_seq_k (fun K4 hK4 => ?_)
  refine wp_plain [true] rfl rfl ?_
  refine s_move hE rfl rfl ?_; clear hE a; intro a hE
  refine q_nil ?_
  refine hK4 _ _ ?_
  refine wp_block ?_
  refine c_loop (fun (i : Nat) a w' => i ≤ 8 ∧ Env a 33 [(0, .int .u8 dm.toNat), (1, .int .i64 z), (5, .pointer (some ⟨b5, 0, none⟩)), (7, .pointer (some ⟨b7, 0, none⟩)), (11, .int .i64 (i : Int))] ∧ Mem w [] w' [blk b7 [bv ((laid 8 (numW z)).take i ++ List.replicate (8 - i) 0)] [8] 55, blk b5 [bv s] [64] 23]) (fun i => 8 - i) 0 ⟨Nat.zero_le _, hE.sel [0, 1, 5, 7, 11] rfl, by simpa using hM⟩ ?_
  clear hE hM a; rintro i a w3 ⟨hi, hE, hM⟩
  refine wp_seq_k (fun K5 hK5 => ?_)
  refine wp_plain [true] rfl rfl ?_
  refine s_bin hE rfl rfl bin_lss rfl ?_; clear hE a; intro a hE
  refine q_nil ?_
  refine hK5 _ _ ?_
  refine wp_seq_k (fun K6 hK6 => ?_)
  refine hE.split 12 rfl (fun hb12 hE' => ?_) (fun hb12 hE' => ?_)
  · replace hE := hE'; clear hE'
    replace hb12 := of_decide_eq_true hb12
    replace hb12 : i < 8 := by omega
    refine wp_cond_true (hE.eval rfl) ?_
    refine wp_skip ?_
    refine hK6 _ _ ?_
    refine wp_seq_k (fun K7 hK7 => ?_)
    refine wp_block ?_
    refine wp_seq_k (fun K8 hK8 => ?_)
    refine wp_plain [true, true] rfl rfl ?_
    refine s_move hE rfl rfl ?_; clear hE a; intro a hE
    refine s_assign hE rfl rfl ?_; clear hE a; intro a hE
    refine q_nil ?_
    replace hE : Env a 33 [(0, _), (1, _), (5, _), (7, _), (8, _), (11, _), (12, _)] := hE.sel [0, 1, 5, 7, 8, 11, 12] rfl
    refine hK8 _ _ ?_
    refine wp_plain [true, true, true, true, true, true, true, true, true, false] rfl rfl ?_
    refine s_move hE rfl rfl ?_; clear hE a; intro a hE
    refine s_move hE rfl rfl ?_; clear hE a; intro a hE
    refine s_conv hE rfl (cnv_int Try.underlying3 Try.underlying56 (wrap_u64_any z)) rfl ?_; clear hE a; intro a hE
    refine s_move hE rfl rfl ?_; clear hE a; intro a hE
    refine s_bin hE rfl rfl (show Bin _ _ _ _ _ (.int .i64 ((8 * i : Nat) : Int)) from bin_mul (by rw [wrap_i64 (by omega) (by omega)]; omega)) rfl ?_; clear hE a; intro a hE
    refine s_bin hE rfl rfl (show Bin _ _ _ _ _ (.int .i64 ((56 - 8 * i : Nat) : Int)) from bin_sub (by rw [wrap_i64 (by omega) (by omega)]; omega)) rfl ?_; clear hE a; intro a hE
    refine s_bin hE rfl rfl (bin_shr_nat (s := 8 * (8 - 1 - i)) (by omega) (by show _ ≤ 64; omega)) rfl ?_; clear hE a; intro a hE
    refine s_conv hE rfl (cnv_int Try.underlying56 Try.underlying5 (wrap_u8_ofNat _)) rfl ?_; clear hE a; intro a hE
    refine s_indexArr (j := i) hE rfl rfl arr55 (by first | rfl | omega) (by omega) rfl ?_; clear hE a; intro a hE
    refine s_storeIdx (j := i) hE rfl (by omega) rfl hM rfl rfl sz5 (by simp; omega) (by intro X h; cases h) ?_; intro w4 hM'; clear hM; have hM := hM'; clear hM'
    first | rw [bv_set'] at hM | rw [bv_setI] at hM
    refine q_nil ?_
    replace hE : Env a 33 [(0, _), (1, _), (5, _), (7, _), (8, _), (11, _), (12, _)] := hE.sel [0, 1, 5, 7, 8, 11, 12] rfl
    refine q_block_n ?_
    refine hK7 _ _ ?_
    refine wp_plain [true, true] rfl rfl ?_
    refine s_bin hE rfl rfl (bin_add (wrap_i64 (by omega) (by omega))) rfl ?_; clear hE a; intro a hE
    refine s_move hE rfl rfl ?_; clear hE a; intro a hE
    refine q_nil ?_
    replace hE : Env a 33 [(0, _), (1, _), (5, _), (7, _), (8, _), (11, _), (12, _)] := hE.sel [0, 1, 5, 7, 8, 11, 12] rfl
    replace hE := hE.cast 11 rfl (show _ = Value.int .i64 ((i + 1 : Nat) : Int) from congrArg _ (by omega))
    rw [laid_set (by omega)] at hM
    exact ⟨i + 1, ⟨by omega, hE.sel [0, 1, 5, 7, 11] rfl, hM⟩, by omega⟩
  · replace hE := hE'; clear hE'
    replace hb12 := of_decide_eq_false hb12
    replace hb12 : ¬ i < 8 := by omega
    obtain rfl : i = 8 := by omega
    rw [List.take_of_length_le (by simp), show List.replicate (8 - 8) (0 : UInt8) = [] from rfl, List.append_nil] at hM
    refine wp_cond_false (hE.eval rfl) ?_
    refine wp_exit ?_
    refine q_then_e ?_
    refine q_then_e ?_
    refine q_block_x ?_
    refine hK3 _ _ ?_
    refine wp_seq_k (fun K7 hK7 => ?_)
    refine wp_drawnM hM (by kernel_rfl) (fun _ => False) [(0, true), (1, true), (2, true), (3, false), (4, false), (5, true), (6, true), (7, true), (8, true), (9, true)] [(3, [(4, 3), (5, 4), (6, 5), (7, 5), (8, 3), (9, 3)]), (4, [(5, 4), (6, 5), (7, 5), (8, 4), (9, 4)])] (by kernel_rfl) rfl ?_
    intro w4 hM' hww4; clear hM; have hM := hM'; clear hM'
    refine s_move hE rfl rfl ?_; clear hE a; intro a hE
    refine s_sliceArr (l := 0) (h := 8) (mx' := 8) hE rfl arr55 rfl rfl rfl (by simp) (by omega) (by omega) (by omega) rfl ?_; clear hE a; intro a hE
    replace hE := hE.cast 26 rfl (show _ = Value.slice (some ⟨b7, 0, none⟩) 8 8 from rfl)
    refine s_sliceArr (l := 0) (h := 64) (mx' := 64) hE rfl arr23 rfl rfl rfl (by simp) (by omega) (by omega) (by omega) rfl ?_; clear hE a; intro a hE
    replace hE := hE.cast 27 rfl (show _ = Value.slice (some ⟨b5, 0, none⟩) 64 64 from rfl)
    refine s_buildSlice (xs := [.tmp 26, .tmp 27]) ([.slice (some ⟨b7, 0, none⟩) 8 8, .slice (some ⟨b5, 0, none⟩) 64 64]) hE hM sl66 rfl rfl rfl (by intro v hv; simp at hv; rcases hv with rfl | rfl <;> rfl) rfl rfl rfl rfl ?_; clear hE a; intro a v28 w5 hE hM'
    clear hM; have hM := hM'; clear hM'
    obtain ⟨cl, hl⟩ := own_rd (hM.get 0 rfl)
    have h7 := rd_of_arr (hM.get 1 rfl) (by simp)
    have h5 := rd_of_arr (hM.get 2 rfl) hs
    refine s_call hE rfl Try.call23 ((by have h := row_c dm _ [laid 8 (numW z), s] _ _ _ _ hl (rdv_cons (p := laid 8 (numW z)) h7 (rdv_cons (p := s) h5 (rdv_nil _))) (by simp [rowBytes, hs]); rw [numT_ok] at h; exact h)) rfl ?_
    rintro e w6 ⟨vr, rfl, hN⟩
    refine ⟨_, rfl, hN.sta0 _, ?_⟩; clear hE a; intro a hE
    replace hM : Mem _ _ w6 [_, _, _, _] := hM.call0 hN ⟨rfl, trivial⟩; clear hN
    refine s_move hE rfl rfl ?_; clear hE a; intro a hE
    refine s_extract hE rfl rfl rfl ?_; clear hE a; intro a hE
    refine s_extract hE rfl rfl rfl ?_; clear hE a; intro a hE
    refine s_assign hE rfl rfl ?_; clear hE a; intro a hE
    refine s_assign hE rfl rfl ?_; clear hE a; intro a hE
    refine q_nil ?_
    replace hE : Env a 33 [(1, _), (7, _), (9, _), (11, _), (12, _)] := hE.sel [1, 7, 9, 11, 12] rfl
    refine hK7 _ _ ?_
    refine wp_seq_k (fun K8 hK8 => ?_)
    refine wp_plain [true, true] rfl rfl ?_
    refine s_move hE rfl rfl ?_; clear hE a; intro a hE
    refine s_assign hE rfl rfl ?_; clear hE a; intro a hE
    refine q_nil ?_
    replace hE : Env a 33 [(1, _), (6, _), (7, _), (11, _), (12, _)] := hE.sel [1, 6, 7, 11, 12] rfl
    refine hK8 _ _ ?_
    refine wp_ret ?_
    refine f_ret1 hE rfl rfl ?_
    exact ⟨_, rfl, hM.pick [0] rfl⟩
theorem plain_c (dm : UInt8) (v : Value) (bs : List UInt8) (c : Nat) (w : World) (hr : (rd v 1 bs.length c (bv bs)).holds w) (hb : bs.length ≤ 100000) : Calls Try.prog 22 #[.int .u8 dm.toNat, v] w fun e w' => ∃ v', e = .returned v' ∧ Mem w [] w' [own v' 1 (plT dm bs).length (bv (plT dm bs))] := by
  have hM := Mem.startR1 hr rfl
  refine f_enter 15 Try.func22 rfl rfl rfl ?_
  intro a hE
  replace hE : Env a 15 [(0, _), (1, _)] := hE
  refine wp_seq_k (fun K1 hK1 => ?_)
  refine wp_plain [true] rfl rfl ?_
  refine s_assign hE rfl rfl ?_; clear hE a; intro a hE
  refine q_nil ?_
  refine hK1 _ _ ?_
  refine wp_seq_k (fun K2 hK2 => ?_)
  refine wp_plain [true, true, false, false, true, true, true, true, true] rfl rfl ?_
  refine s_move hE rfl rfl ?_; clear hE a; intro a hE
  refine s_move hE rfl rfl ?_; clear hE a; intro a hE
  have hv1 := rd_one hr
  refine s_buildSlice (xs := [.tmp 9]) ([v]) hE hM sl66 rfl rfl rfl (by intro u hu; rw [List.mem_singleton.1 hu, hv1.1]; rfl) (by simp [hv1.1]) rfl rfl rfl ?_; clear hE a; intro a v10 w1 hE hM'
  clear hM; have hM := hM'; clear hM'
  obtain ⟨cl, hl⟩ := own_rd (hM.get 0 rfl)
  refine s_call hE rfl Try.call23 ((by have h := row_c dm _ [bs] _ _ _ _ hl (rdv_cons (p := bs) (hM.get 1 rfl) (rdv_nil _)) (by simp [rowBytes]; omega); rw [plT_ok] at h; exact h)) rfl ?_
  rintro e w2 ⟨vr, rfl, hN⟩
  refine ⟨_, rfl, trivial, ?_⟩; clear hE a; intro a hE
  replace hM : Mem _ _ w2 [_, _, _] := hM.call0 hN ⟨rfl, trivial⟩; clear hN
  refine s_move hE rfl rfl ?_; clear hE a; intro a hE
  refine s_extract hE rfl rfl rfl ?_; clear hE a; intro a hE
  refine s_extract hE rfl rfl rfl ?_; clear hE a; intro a hE
  refine s_assign hE rfl rfl ?_; clear hE a; intro a hE
  refine s_assign hE rfl rfl ?_; clear hE a; intro a hE
  refine q_nil ?_
  replace hE : Env a 15 [(4, _), (5, _)] := hE.sel [4, 5] rfl
  refine hK2 _ _ ?_
  refine wp_seq_k (fun K3 hK3 => ?_)
  refine wp_plain [true, true] rfl rfl ?_
  refine s_move hE rfl rfl ?_; clear hE a; intro a hE
  refine s_assign hE rfl rfl ?_; clear hE a; intro a hE
  refine q_nil ?_
  replace hE : Env a 15 [(4, _)] := hE.sel [4] rfl
  refine hK3 _ _ ?_
  refine wp_ret ?_
  refine f_ret1 hE rfl rfl ?_
  exact ⟨_, rfl, hM.pick [0] rfl⟩
theorem leaftext_c (z : Int) (s : List UInt8) (w : World) (hs : s.length = 64) : Calls Try.prog 9 #[.int .i64 z, .agg (bv s).toArray] w fun e w' => ∃ v', e = .returned v' ∧ Mem w [] w' [own v' 1 (numT 76 z s).length (bv (numT 76 z s))] := by
  have hM := Mem.start0 w
  refine f_enter 8 Try.func9 rfl rfl rfl ?_
  intro a hE
  replace hE : Env a 8 [(0, _), (1, _)] := hE
  refine wp_seq_k (fun K1 hK1 => ?_)
  refine wp_plain [false, true] rfl rfl ?_
  refine s_box (ss := [bv s]) [64] hE hM rfl (by simp [Value.cells]) (by simp [hs]) rfl ?_; clear hE a; intro a b3 w1 hE hM'
  clear hM; have hM := hM'; clear hM'
  refine s_assign hE rfl rfl ?_; clear hE a; intro a hE
  refine q_nil ?_
  replace hE : Env a 8 [(0, _), (3, _), (4, _)] := hE.sel [0, 3, 4] rfl
  refine hK1 _ _ ?_
  refine wp_seq_k (fun K2 hK2 => ?_)
  refine wp_plain [true, true, false, true] rfl rfl ?_
  refine s_move hE rfl rfl ?_; clear hE a; intro a hE
  refine s_loadN hE rfl (hM.get 0 rfl) row23 rfl (by intro X h; cases h) rfl ?_; clear hE a; intro a hE
  refine s_call hE rfl Try.call15 (numbered_c 76 z s _ hs) rfl ?_
  rintro e w2 ⟨vr, rfl, hN⟩
  refine ⟨_, rfl, trivial, ?_⟩; clear hE a; intro a hE
  replace hM : Mem _ _ w2 [_, _] := hM.call0 hN ⟨rfl, trivial⟩; clear hN
  refine s_assign hE rfl rfl ?_; clear hE a; intro a hE
  refine q_nil ?_
  replace hE : Env a 8 [(4, _)] := hE.sel [4] rfl
  refine hK2 _ _ ?_
  refine wp_ret ?_
  refine f_ret1 hE rfl rfl ?_
  exact ⟨_, rfl, hM.pick [0] rfl⟩
theorem nodetext_c (z : Int) (s : List UInt8) (w : World) (hs : s.length = 64) : Calls Try.prog 12 #[.int .i64 z, .agg (bv s).toArray] w fun e w' => ∃ v', e = .returned v' ∧ Mem w [] w' [own v' 1 (numT 78 z s).length (bv (numT 78 z s))] := by
  have hM := Mem.start0 w
  refine f_enter 8 Try.func12 rfl rfl rfl ?_
  intro a hE
  replace hE : Env a 8 [(0, _), (1, _)] := hE
  refine wp_seq_k (fun K1 hK1 => ?_)
  refine wp_plain [false, true] rfl rfl ?_
  refine s_box (ss := [bv s]) [64] hE hM rfl (by simp [Value.cells]) (by simp [hs]) rfl ?_; clear hE a; intro a b3 w1 hE hM'
  clear hM; have hM := hM'; clear hM'
  refine s_assign hE rfl rfl ?_; clear hE a; intro a hE
  refine q_nil ?_
  replace hE : Env a 8 [(0, _), (3, _), (4, _)] := hE.sel [0, 3, 4] rfl
  refine hK1 _ _ ?_
  refine wp_seq_k (fun K2 hK2 => ?_)
  refine wp_plain [true, true, false, true] rfl rfl ?_
  refine s_move hE rfl rfl ?_; clear hE a; intro a hE
  refine s_loadN hE rfl (hM.get 0 rfl) row23 rfl (by intro X h; cases h) rfl ?_; clear hE a; intro a hE
  refine s_call hE rfl Try.call15 (numbered_c 78 z s _ hs) rfl ?_
  rintro e w2 ⟨vr, rfl, hN⟩
  refine ⟨_, rfl, trivial, ?_⟩; clear hE a; intro a hE
  replace hM : Mem _ _ w2 [_, _] := hM.call0 hN ⟨rfl, trivial⟩; clear hN
  refine s_assign hE rfl rfl ?_; clear hE a; intro a hE
  refine q_nil ?_
  replace hE : Env a 8 [(4, _)] := hE.sel [4] rfl
  refine hK2 _ _ ?_
  refine wp_ret ?_
  refine f_ret1 hE rfl rfl ?_
  exact ⟨_, rfl, hM.pick [0] rfl⟩
theorem roottext_c (v : Value) (bs : List UInt8) (c : Nat) (w : World) (hr : (rd v 1 bs.length c (bv bs)).holds w) (hb : bs.length ≤ 100000) : Calls Try.prog 11 #[v] w fun e w' => ∃ v', e = .returned v' ∧ Mem w [] w' [own v' 1 (plT 82 bs).length (bv (plT 82 bs))] := by
  have hM := Mem.startR1 hr rfl
  refine f_enter 5 Try.func11 rfl rfl rfl ?_
  intro a hE
  replace hE : Env a 5 [(0, _)] := hE
  refine wp_seq_k (fun K1 hK1 => ?_)
  refine wp_plain [true] rfl rfl ?_
  refine s_assign hE rfl rfl ?_; clear hE a; intro a hE
  refine q_nil ?_
  refine hK1 _ _ ?_
  refine wp_seq_k (fun K2 hK2 => ?_)
  refine wp_plain [true, false, true] rfl rfl ?_
  refine s_move hE rfl rfl ?_; clear hE a; intro a hE
  refine s_call hE rfl Try.call22 (plain_c 82 v bs c _ (hM.get 0 rfl) hb) rfl ?_
  rintro e w1 ⟨vr, rfl, hN⟩
  refine ⟨_, rfl, trivial, ?_⟩; clear hE a; intro a hE
  replace hM : Mem _ _ w1 [_, _] := hM.call0 hN ⟨rfl, trivial⟩; clear hN
  refine s_assign hE rfl rfl ?_; clear hE a; intro a hE
  refine q_nil ?_
  replace hE : Env a 5 [(2, _)] := hE.sel [2] rfl
  refine hK2 _ _ ?_
  refine wp_ret ?_
  refine f_ret1 hE rfl rfl ?_
  exact ⟨_, rfl, hM.pick [0] rfl⟩
theorem headtext_c (v : Value) (bs : List UInt8) (c : Nat) (w : World) (hr : (rd v 1 bs.length c (bv bs)).holds w) (hb : bs.length ≤ 100000) : Calls Try.prog 13 #[v] w fun e w' => ∃ v', e = .returned v' ∧ Mem w [] w' [own v' 1 (plT 72 bs).length (bv (plT 72 bs))] := by
  have hM := Mem.startR1 hr rfl
  refine f_enter 5 Try.func13 rfl rfl rfl ?_
  intro a hE
  replace hE : Env a 5 [(0, _)] := hE
  refine wp_seq_k (fun K1 hK1 => ?_)
  refine wp_plain [true] rfl rfl ?_
  refine s_assign hE rfl rfl ?_; clear hE a; intro a hE
  refine q_nil ?_
  refine hK1 _ _ ?_
  refine wp_seq_k (fun K2 hK2 => ?_)
  refine wp_plain [true, false, true] rfl rfl ?_
  refine s_move hE rfl rfl ?_; clear hE a; intro a hE
  refine s_call hE rfl Try.call22 (plain_c 72 v bs c _ (hM.get 0 rfl) hb) rfl ?_
  rintro e w1 ⟨vr, rfl, hN⟩
  refine ⟨_, rfl, trivial, ?_⟩; clear hE a; intro a hE
  replace hM : Mem _ _ w1 [_, _] := hM.call0 hN ⟨rfl, trivial⟩; clear hN
  refine s_assign hE rfl rfl ?_; clear hE a; intro a hE
  refine q_nil ?_
  replace hE : Env a 5 [(2, _)] := hE.sel [2] rfl
  refine hK2 _ _ ?_
  refine wp_ret ?_
  refine f_ret1 hE rfl rfl ?_
  exact ⟨_, rfl, hM.pick [0] rfl⟩
theorem bodytext_c (v : Value) (bs : List UInt8) (c : Nat) (w : World) (hr : (rd v 1 bs.length c (bv bs)).holds w) (hb : bs.length ≤ 100000) : Calls Try.prog 14 #[v] w fun e w' => ∃ v', e = .returned v' ∧ Mem w [] w' [own v' 1 (plT 66 bs).length (bv (plT 66 bs))] := by
  have hM := Mem.startR1 hr rfl
  refine f_enter 5 Try.func14 rfl rfl rfl ?_
  intro a hE
  replace hE : Env a 5 [(0, _)] := hE
  refine wp_seq_k (fun K1 hK1 => ?_)
  refine wp_plain [true] rfl rfl ?_
  refine s_assign hE rfl rfl ?_; clear hE a; intro a hE
  refine q_nil ?_
  refine hK1 _ _ ?_
  refine wp_seq_k (fun K2 hK2 => ?_)
  refine wp_plain [true, false, true] rfl rfl ?_
  refine s_move hE rfl rfl ?_; clear hE a; intro a hE
  refine s_call hE rfl Try.call22 (plain_c 66 v bs c _ (hM.get 0 rfl) hb) rfl ?_
  rintro e w1 ⟨vr, rfl, hN⟩
  refine ⟨_, rfl, trivial, ?_⟩; clear hE a; intro a hE
  replace hM : Mem _ _ w1 [_, _] := hM.call0 hN ⟨rfl, trivial⟩; clear hN
  refine s_assign hE rfl rfl ?_; clear hE a; intro a hE
  refine q_nil ?_
  replace hE : Env a 5 [(2, _)] := hE.sel [2] rfl
  refine hK2 _ _ ?_
  refine wp_ret ?_
  refine f_ret1 hE rfl rfl ?_
  exact ⟨_, rfl, hM.pick [0] rfl⟩
theorem join_c (x y : List UInt8) (w : World) (hx : x.length = 32) (hy : y.length = 32) : Calls Try.prog 8 #[.agg (bv x).toArray, .agg (bv y).toArray] w fun e w' => e = .returned (.agg (bv (x ++ y)).toArray) ∧ Mem w [] w' [] := by
  have hM := Mem.start0 w
  refine f_enter 12 Try.func8 rfl rfl rfl ?_
  intro a hE
  replace hE : Env a 12 [(0, _), (1, _)] := hE
  refine wp_seq_k (fun K1 hK1 => ?_)
  refine wp_plain [false, false, false] rfl rfl ?_
  refine s_box (ss := [bv x]) [32] hE hM rfl (by simp [Value.cells]) (by simp [hx, hy]) rfl ?_; clear hE a; intro a b2 w1 hE hM'
  clear hM; have hM := hM'; clear hM'
  refine s_box (ss := [bv y]) [32] hE hM rfl (by simp [Value.cells]) (by simp [hx, hy]) rfl ?_; clear hE a; intro a b3 w2 hE hM'
  clear hM; have hM := hM'; clear hM'
  refine s_alloc [64] hE hM zero23 rfl rfl ?_; clear hE a; intro a b4 w3 hE hM'
  clear hM; have hM := hM'; clear hM'
  replace hM := hM.resplit (ss' := [bv (List.replicate 32 0), bv (List.replicate 32 0)]) (ns' := [32, 32]) (by simp [← bv_append]) (by simp)
  refine q_nil ?_
  replace hE : Env a 12 [(2, _), (3, _), (4, _)] := hE.sel [2, 3, 4] rfl
  refine hK1 _ _ ?_
  refine wp_seq_k (fun K2 hK2 => ?_)
  refine wp_drawnM2 hM (by kernel_rfl) (fun b => b = b4) (fun _ => True) [(0, true), (1, true)] [(2, false)] [(2, []), (0, [(2, 0)]), (1, [(2, 1)])] (by kernel_rfl) (by kernel_rfl) rfl rfl ?_
  intro w4 hM' hww4; clear hM; have hM := hM'; clear hM'
  refine s_sliceArr (l := 0) (h := 32) (mx' := 64) hE rfl arr23 rfl ⟨_, rfl⟩ rfl (by simp) (by omega) (by omega) (by omega) rfl ?_; clear hE a; intro a hE
  replace hE := hE.cast 5 rfl (show _ = Value.slice (some ⟨b4, 0, none⟩) 32 64 from rfl)
  refine s_sliceArr (l := 0) (h := 32) (mx' := 32) hE rfl arr31 rfl rfl rfl (by simp) (by omega) (by omega) (by omega) rfl ?_; clear hE a; intro a hE
  replace hE := hE.cast 6 rfl (show _ = Value.slice (some ⟨b2, 0, none⟩) 32 32 from rfl)
  refine q_nil (q_ph ?_)
  have hy7 := rd_of_arr (hM.get 2 rfl) hx
  refine s_copySeg 0 hE rfl rfl hM hy7 hx (bv_one _) sl24 rfl (by simp) rfl (by intro X h; cases h; simp) rfl ?_; clear hE a; intro a w5 hE hM'; clear hM; have hM := hM'; clear hM'
  simp only [List.set_cons_zero, List.set_cons_succ] at hM
  refine q_nil ?_
  replace hE : Env a 12 [(3, _), (4, _)] := hE.sel [3, 4] rfl
  refine hK2 _ _ ?_
  refine wp_seq_k (fun K3 hK3 => ?_)
  refine wp_drawnM2 hM (by kernel_rfl) (fun b => b = b4) (fun _ => True) [(0, true), (1, true)] [(2, false)] [(2, []), (0, [(2, 0)]), (1, [(2, 1)])] (by kernel_rfl) (by kernel_rfl) rfl rfl ?_
  intro w6 hM' hww6; clear hM; have hM := hM'; clear hM'
  refine s_sliceArr (l := 32) (h := 64) (mx' := 64) hE rfl arr23 ⟨_, rfl⟩ rfl rfl (by simp) (by omega) (by omega) (by omega) rfl ?_; clear hE a; intro a hE
  replace hE := hE.cast 8 rfl (show _ = Value.slice (some ⟨b4, 32, none⟩) 32 32 from rfl)
  refine s_sliceArr (l := 0) (h := 32) (mx' := 32) hE rfl arr31 rfl rfl rfl (by simp) (by omega) (by omega) (by omega) rfl ?_; clear hE a; intro a hE
  replace hE := hE.cast 9 rfl (show _ = Value.slice (some ⟨b3, 0, none⟩) 32 32 from rfl)
  refine q_nil (q_ph ?_)
  have hy10 := rd_of_arr (hM.get 1 rfl) hy
  refine s_copySeg 1 hE rfl rfl hM hy10 hy (bv_one _) sl24 rfl (by simp) rfl (by intro X h; cases h; simp) rfl ?_; clear hE a; intro a w7 hE hM'; clear hM; have hM := hM'; clear hM'
  simp only [List.set_cons_zero, List.set_cons_succ] at hM
  refine q_nil ?_
  replace hE : Env a 12 [(4, _)] := hE.sel [4] rfl
  refine hK3 _ _ ?_
  refine wp_seq_k (fun K4 hK4 => ?_)
  refine wp_plain [true, false] rfl rfl ?_
  replace hM := hM.resplit (ss' := [bv (x ++ y)]) (ns' := [64]) (by simp) (by simp [hx, hy])
  refine s_loadN hE rfl (hM.get 0 rfl) row23 rfl (by intro X h; cases h) rfl ?_; clear hE a; intro a hE
  refine s_storeSeg 0 hE rfl rfl hM rfl sz23 (by simp [hx, hy]) (bv_one _) rfl (by simp [hx, hy]) rfl (by intro X h; cases h) ?_; intro w8 hM'; clear hM; have hM := hM'; clear hM'
  simp only [List.set_cons_zero, List.set_cons_succ] at hM
  refine q_nil ?_
  replace hE : Env a 12 [(4, _)] := hE.sel [4] rfl
  refine hK4 _ _ ?_
  refine wp_ret ?_
  refine f_ret1 hE rfl (res_cellN rfl (hM.get 0 rfl) row23 rfl) ?_
  exact ⟨rfl, hM.nil⟩
theorem split_c (s : List UInt8) (w : World) (hs : s.length = 64) : Calls Try.prog 7 #[.agg (bv s).toArray] w fun e w' => e = .returned (.tuple #[.agg (bv (s.take 32)).toArray, .agg (bv (s.drop 32)).toArray]) ∧ Mem w [] w' [] := by
  have hM := Mem.start0 w
  refine f_enter 10 Try.func7 rfl rfl rfl ?_
  intro a hE
  replace hE : Env a 10 [(0, _)] := hE
  refine wp_seq_k (fun K1 hK1 => ?_)
  refine wp_plain [false, false, false] rfl rfl ?_
  refine s_box (ss := [bv s]) [64] hE hM rfl (by simp [Value.cells]) (by simp [hs]) rfl ?_; clear hE a; intro a b1 w1 hE hM'
  clear hM; have hM := hM'; clear hM'
  replace hM := hM.resplit (ss' := [bv (s.take 32), bv (s.drop 32)]) (ns' := [32, 32]) (by simp [← bv_append]) (by simp [hs])
  refine s_alloc [32] hE hM zero31 rfl rfl ?_; clear hE a; intro a b2 w2 hE hM'
  clear hM; have hM := hM'; clear hM'
  refine s_alloc [32] hE hM zero31 rfl rfl ?_; clear hE a; intro a b3 w3 hE hM'
  clear hM; have hM := hM'; clear hM'
  refine q_nil ?_
  replace hE : Env a 10 [(1, _), (2, _), (3, _)] := hE.sel [1, 2, 3] rfl
  refine hK1 _ _ ?_
  refine wp_seq_k (fun K2 hK2 => ?_)
  refine wp_drawnM hM (by kernel_rfl) (fun b => b = b2 ∨ b = b3) [(0, true), (1, true), (2, true), (3, true), (4, true), (5, true), (6, false), (7, false)] [(6, [(7, 6)]), (7, [])] (by kernel_rfl) rfl ?_
  intro w4 hM' hww4; clear hM; have hM := hM'; clear hM'
  refine s_sliceArr (l := 0) (h := 32) (mx' := 64) hE rfl arr23 rfl ⟨_, rfl⟩ rfl (by simp) (by omega) (by omega) (by omega) rfl ?_; clear hE a; intro a hE
  replace hE := hE.cast 4 rfl (show _ = Value.slice (some ⟨b1, 0, none⟩) 32 64 from rfl)
  refine s_toArrP hE rfl Try.underlying31 (by decide) rfl ?_; clear hE a; intro a hE
  refine s_loadN hE rfl (hM.get 2 rfl) row31 rfl (by intro X h; cases h; exact fun hx => hx.elim (fun hx => ((apart_of_get hM.apart (i := 2) (j := 1) rfl rfl (by decide)).1 _ (.head _)).1 (by rw [hx]; exact .head _)) (fun hx => ((apart_of_get hM.apart (i := 2) (j := 0) rfl rfl (by decide)).1 _ (.head _)).1 (by rw [hx]; exact .head _))) rfl ?_; clear hE a; intro a hE
  refine s_sliceArr (l := 32) (h := 64) (mx' := 64) hE rfl arr23 ⟨_, rfl⟩ rfl rfl (by simp) (by omega) (by omega) (by omega) rfl ?_; clear hE a; intro a hE
  replace hE := hE.cast 7 rfl (show _ = Value.slice (some ⟨b1, 32, none⟩) 32 32 from rfl)
  refine s_toArrP hE rfl Try.underlying31 (by decide) rfl ?_; clear hE a; intro a hE
  refine s_loadN hE rfl (hM.get 2 rfl) row31 rfl (by intro X h; cases h; exact fun hx => hx.elim (fun hx => ((apart_of_get hM.apart (i := 2) (j := 1) rfl rfl (by decide)).1 _ (.head _)).1 (by rw [hx]; exact .head _)) (fun hx => ((apart_of_get hM.apart (i := 2) (j := 0) rfl rfl (by decide)).1 _ (.head _)).1 (by rw [hx]; exact .head _))) rfl ?_; clear hE a; intro a hE
  replace hM : Mem _ _ w4 [_, _, _] := hM.pick [1, 0, 2] rfl
  refine s_storeSeg 0 hE rfl rfl hM rfl sz31 (by simp [hs]) (bv_one _) rfl (by simp) rfl (by intro X h; cases h; first | (simp; done) | simp [valBlocks]) ?_; intro w5 hM'; clear hM; have hM := hM'; clear hM'
  simp only [List.set_cons_zero, List.set_cons_succ] at hM
  replace hM : Mem _ _ w5 [_, _, _] := hM.pick [1, 0, 2] rfl
  refine s_storeSeg 0 hE rfl rfl hM rfl sz31 (by simp [hs]) (bv_one _) rfl (by simp) rfl (by intro X h; cases h; first | (simp; done) | simp [valBlocks]) ?_; intro w6 hM'; clear hM; have hM := hM'; clear hM'
  simp only [List.set_cons_zero, List.set_cons_succ] at hM
  refine q_nil ?_
  replace hE : Env a 10 [(2, _), (3, _)] := hE.sel [2, 3] rfl
  refine hK2 _ _ ?_
  refine wp_ret ?_
  refine f_ret2 hE rfl (res_cellN rfl (hM.get 1 rfl) row31 rfl) (res_cellN rfl (hM.get 0 rfl) row31 rfl) ?_
  exact ⟨rfl, hM.nil⟩
end Go.Proofs.Ytbljddjfcmbnpaa
