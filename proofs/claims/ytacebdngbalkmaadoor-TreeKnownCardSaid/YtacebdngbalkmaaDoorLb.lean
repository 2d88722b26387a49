/- Walks of functions of the given program that the claim reaches. -/
import Derived.Test.YtacebdngbalkmaaDoorLr
set_option linter.unusedSimpArgs false
set_option linter.unusedVariables false
namespace Go.Proofs.YtacebdngbalkmaaDoor
open Go Go.Kx
theorem zero93 : Zero Tryd.prog 93 [bv (List.replicate 8 0)] := ⟨.agg ([bv (List.replicate 8 0)] : List (List Value)).flatten.toArray, by kernel_rfl, by kernel_rfl⟩
theorem arr93 : arrT Tryd.prog 93 = some (8, 1) := by kernel_rfl
theorem arr52 : arrT Tryd.prog 52 = some (64, 1) := by kernel_rfl
theorem row52 : RowT Tryd.prog 52 64 := RowT.of Tryd.underlying52 rfl (by kernel_rfl)
theorem zero52 : Zero Tryd.prog 52 [bv (List.replicate 64 0)] := ⟨.agg ([bv (List.replicate 64 0)] : List (List Value)).flatten.toArray, by kernel_rfl, by kernel_rfl⟩
theorem sz52 : (Tryd.prog.info? 52).map (·.size) = some 64 := by kernel_rfl
theorem blay_c (v : Value) (bs : List UInt8) (k m : Nat) (w : World) (hv : (own v 1 bs.length (bv bs)).holds w) (hk : k ≤ 8) (hlen : bs.length + k ≤ 140737488355328) : Calls Tryd.prog 53 #[v, .int .i64 k, .int .u64 m] w fun e w' => ∃ v', e = .returned v' ∧ Mem w (valBlocks v) w' [own v' 1 (bs.length + k) (bv (bs ++ laid k m))] := by
  have hM := Mem.start1 hv
  refine f_enter 25 Tryd.func53 rfl rfl rfl ?_
  intro a hE
  replace hE : Env a 25 [(0, _), (1, _), (2, _)] := hE
  refine wp_seq_k (fun K1 hK1 => ?_)
  refine wp_plain [true] rfl rfl ?_
  refine s_assign hE rfl rfl ?_; clear hE a; intro a hE
  refine q_nil ?_
  refine hK1 _ _ ?_
  refine wp_seq_k (fun K2 hK2 => ?_)
  refine wp_seq_k (fun K3 hK3 => ?_)
  refine wp_plain [true, true] rfl rfl ?_
  refine s_move hE rfl rfl ?_; clear hE a; intro a hE
  refine s_move hE rfl rfl ?_; clear hE a; intro a hE
  refine q_nil ?_
  refine hK3 _ _ ?_
  refine wp_block ?_
  refine c_loop (fun (i : Nat) a w' => i ≤ k ∧ ∃ v', Env a 25 [(0, v'), (1, .int .i64 k), (2, .int .u64 m), (8, .int .i64 k), (9, .int .i64 i)] ∧ Mem w (valBlocks v) w' [own v' 1 (bs.length + i) (bv (bs ++ (laid k m).take i))]) (fun i => k - i) 0 ⟨Nat.zero_le _, _, hE.sel [0, 1, 2, 8, 9] rfl, by simpa using hM⟩ ?_
  clear hE hM a; rintro i a w2 ⟨hi, v2, hE, hM⟩
  refine wp_seq_k (fun K4 hK4 => ?_)
  refine wp_plain [true] rfl rfl ?_
  refine s_bin hE rfl rfl bin_lss rfl ?_; clear hE a; intro a hE
  refine q_nil ?_
  refine hK4 _ _ ?_
  refine wp_seq_k (fun K5 hK5 => ?_)
  refine hE.split 10 rfl (fun hb10 hE' => ?_) (fun hb10 hE' => ?_)
  · replace hE := hE'; clear hE'
    replace hb10 := of_decide_eq_true hb10
    refine wp_cond_true (hE.eval rfl) ?_
    refine wp_skip ?_
    refine hK5 _ _ ?_
    refine wp_seq_k (fun K6 hK6 => ?_)
    refine wp_block ?_
    refine wp_seq_k (fun K7 hK7 => ?_)
    refine wp_plain [true, true] rfl rfl ?_
    refine s_move hE rfl rfl ?_; clear hE a; intro a hE
    refine s_assign hE rfl rfl ?_; clear hE a; intro a hE
    refine q_nil ?_
    replace hE : Env a 25 [(0, _), (1, _), (2, _), (7, _), (8, _), (9, _), (10, _)] := hE.sel [0, 1, 2, 7, 8, 9, 10] rfl
    refine hK7 _ _ ?_
    refine wp_plain [true, true, true, true, true, true, true, true, true, false, false, true] rfl rfl ?_
    refine s_move hE rfl rfl ?_; clear hE a; intro a hE
    refine s_move hE rfl rfl ?_; clear hE a; intro a hE
    refine s_move hE rfl rfl ?_; clear hE a; intro a hE
    refine s_bin hE rfl rfl (bin_sub (wrap_i64 (by omega) (by omega))) rfl ?_; clear hE a; intro a hE
    refine s_move hE rfl rfl ?_; clear hE a; intro a hE
    refine s_bin hE rfl rfl (bin_sub (wrap_i64 (by omega) (by omega))) rfl ?_; clear hE a; intro a hE
    refine s_bin hE rfl rfl (bin_mul (q := ((8 * (k - 1 - i) : Nat) : Int)) (by rw [wrap_i64 (by omega) (by omega)]; omega)) rfl ?_; clear hE a; intro a hE
    refine s_bin hE rfl rfl (bin_shr_nat rfl (by show _ ≤ 64; omega)) rfl ?_; clear hE a; intro a hE
    refine s_conv hE rfl (cnv_int Tryd.underlying94 Tryd.underlying5 (wrap_u8_ofNat _)) rfl ?_; clear hE a; intro a hE
    refine s_buildSlice (xs := [.tmp 20]) (bv [UInt8.ofNat (m / 2 ^ (8 * (k - 1 - i)))]) hE hM sl82 rfl rfl rfl (by intro v hv; simp at hv; subst hv; rfl) rfl rfl rfl rfl ?_; clear hE a; intro a v21 w1 hE hM'
    clear hM; have hM := hM'; clear hM'
    replace hM : Mem _ _ w1 [_, _] := hM.pick [1, 0] rfl
    obtain ⟨cy, hy⟩ := own_rd (hM.get 1 rfl)
    refine s_append hE rfl rfl hM sl82 (Src.rd Tryd.underlying82 hy (bv_one _)) (len47 (by omega)) (by omega) (by intro X h; cases h) rfl ?_; clear hE a hy; intro a v22 w2 hE hM'
    clear hM; have hM := hM'; clear hM'
    replace hM : Mem _ _ w2 [_] := hM.pick [0] rfl
    refine s_assign hE rfl rfl ?_; clear hE a; intro a hE
    refine q_nil ?_
    replace hE : Env a 25 [(0, _), (1, _), (2, _), (7, _), (8, _), (9, _), (10, _)] := hE.sel [0, 1, 2, 7, 8, 9, 10] rfl
    refine q_block_n ?_
    refine hK6 _ _ ?_
    refine wp_plain [true, true] rfl rfl ?_
    refine s_bin hE rfl rfl (bin_add (wrap_i64 (by omega) (by omega))) rfl ?_; clear hE a; intro a hE
    refine s_move hE rfl rfl ?_; clear hE a; intro a hE
    refine q_nil ?_
    replace hE : Env a 25 [(0, _), (1, _), (2, _), (7, _), (8, _), (9, _), (10, _)] := hE.sel [0, 1, 2, 7, 8, 9, 10] rfl
    replace hE := hE.cast 9 rfl (show _ = Value.int .i64 ((i + 1 : Nat) : Int) from congrArg _ (by omega))
    refine ⟨i + 1, ⟨by omega, _, hE.sel [0, 1, 2, 8, 9] rfl, ?_⟩, by omega⟩
    rw [laid_take_succ (by omega), ← List.append_assoc, bv_append]; exact hM
  · replace hE := hE'; clear hE'
    replace hb10 := of_decide_eq_false hb10
    obtain rfl : i = k := by omega
    refine wp_cond_false (hE.eval rfl) ?_
    refine wp_exit ?_
    refine q_then_e ?_
    refine q_then_e ?_
    refine q_block_x ?_
    refine hK2 _ _ ?_
    refine wp_seq_k (fun K6 hK6 => ?_)
    refine wp_plain [true, true] rfl rfl ?_
    refine s_move hE rfl rfl ?_; clear hE a; intro a hE
    refine s_assign hE rfl rfl ?_; clear hE a; intro a hE
    refine q_nil ?_
    replace hE : Env a 25 [(0, _), (1, _), (2, _), (6, _), (8, _), (9, _), (10, _)] := hE.sel [0, 1, 2, 6, 8, 9, 10] rfl
    refine hK6 _ _ ?_
    refine wp_ret ?_
    refine f_ret1 hE rfl rfl ?_
    refine ⟨_, rfl, ?_⟩
    rw [List.take_of_length_le (by simp)] at hM; exact hM
theorem brow_c (dm : UInt8) (bb : List Nat) (ps : List (List UInt8)) (v : Value) (vs : List Value) (c : Nat) (w : World) (hv : (rd v 1 ps.length c vs).holds w) (hp : (rdv bb vs ps).holds w) (hlen : rowBytes ps ≤ 140737488355328) : Calls Tryd.prog 48 #[.int .u8 dm.toNat, v] w fun e w' => ∃ v', e = .returned (.tuple #[v', .int .i64 (((pRow dm ps).2 : Nat) : Int)]) ∧ Mem w [] w' [own v' 1 (pRow dm ps).1.length (bv (pRow dm ps).1)] := by
  have hM := Mem.startR2 hv hp rfl rfl
  have hvl : vs.length = ps.length := by have := hv.1; omega
  refine f_enter 32 Tryd.func48 rfl rfl rfl ?_
  intro a hE
  replace hE : Env a 32 [(0, _), (1, _)] := hE
  refine wp_seq_k (fun K1 hK1 => ?_)
  refine wp_plain [true, true] rfl rfl ?_
  refine s_assign hE rfl rfl ?_; clear hE a; intro a hE
  refine s_assign hE rfl rfl ?_; clear hE a; intro a hE
  refine q_nil ?_
  refine hK1 _ _ ?_
  refine wp_seq_k (fun K2 hK2 => ?_)
  refine wp_seq_k (fun K3 hK3 => ?_)
  refine wp_plain [true, true, true] rfl rfl ?_
  refine s_move hE rfl rfl ?_; clear hE a; intro a hE
  refine s_len hE rfl Tryd.underlying98 (rd_slice (hM.get 0 rfl)) rfl ?_; clear hE a; intro a hE
  refine s_bin hE rfl rfl bin_gtr rfl ?_; clear hE a; intro a hE
  refine q_nil ?_
  replace hE : Env a 32 [(0, _), (1, _), (4, _), (5, _), (11, _)] := hE.sel [0, 1, 4, 5, 11] rfl
  refine hK3 _ _ ?_
  refine hE.split 11 rfl (fun hb11 hE' => ?_) (fun hb11 hE' => ?_)
  · replace hE := hE'; clear hE'
    replace hb11 := of_decide_eq_true hb11
    refine wp_cond_true (hE.eval rfl) ?_
    refine wp_seq_k (fun K4 hK4 => ?_)
    refine wp_plain [true, true] rfl rfl ?_
    refine s_assign hE rfl rfl ?_; clear hE a; intro a hE
    refine s_assign hE rfl rfl ?_; clear hE a; intro a hE
    refine q_nil ?_
    refine hK4 _ _ ?_
    refine wp_ret ?_
    refine q_then_r ?_
    refine f_ret2 hE rfl rfl rfl ?_
    have hq : pRow dm ps = ([], 3) := by unfold pRow; rw [if_pos (by omega)]
    rw [hq]; exact ⟨_, rfl, hM.nil.addNil 1⟩
  · replace hE := hE'; clear hE'
    replace hb11 := of_decide_eq_false hb11
    refine wp_cond_false (hE.eval rfl) ?_
    refine wp_skip ?_
    refine hK2 _ _ ?_
    refine wp_seq_k (fun K4 hK4 => ?_)
    refine wp_plain [true, true, true, true, false, true] rfl rfl ?_
    refine s_move hE rfl rfl ?_; clear hE a; intro a hE
    refine s_move hE rfl rfl ?_; clear hE a; intro a hE
    refine s_len hE rfl Tryd.underlying98 (rd_slice (hM.get 0 rfl)) rfl ?_; clear hE a; intro a hE
    refine s_conv hE rfl (cnv_int Tryd.underlying3 Tryd.underlying5 (wrap_u8_ofNat _)) rfl ?_; clear hE a; intro a hE
    refine s_buildSlice (xs := [.tmp 12, .tmp 15]) (bv [dm, UInt8.ofNat ps.length]) hE hM sl82 rfl rfl rfl (by intro v hv; simp at hv; rcases hv with rfl | rfl <;> rfl) rfl rfl rfl rfl ?_; clear hE a; intro a v16 w1 hE hM'
    clear hM; have hM := hM'; clear hM'
    refine s_assign hE rfl rfl ?_; clear hE a; intro a hE
    refine q_nil ?_
    replace hE : Env a 32 [(1, _), (4, _), (5, _), (6, _), (11, _)] := hE.sel [1, 4, 5, 6, 11] rfl
    refine hK4 _ _ ?_
    refine wp_seq_k (fun K5 hK5 => ?_)
    refine wp_seq_k (fun K6 hK6 => ?_)
    refine wp_plain [true, true, true] rfl rfl ?_
    refine s_move hE rfl rfl ?_; clear hE a; intro a hE
    refine s_len hE rfl Tryd.underlying98 (rd_slice (hM.get 1 rfl)) rfl ?_; clear hE a; intro a hE
    refine s_move hE rfl rfl ?_; clear hE a; intro a hE
    refine q_nil ?_
    refine hK6 _ _ ?_
    refine wp_block ?_
    refine c_loop (fun (i : Nat) a w' => i ≤ ps.length ∧ ∃ vo, Env a 32 [(1, v), (6, vo), (17, v), (18, .int .i64 ps.length), (19, .int .i64 i)] ∧ Mem w [] w' [own vo 1 (rowBs dm ps i).length (bv (rowBs dm ps i)), rd v 1 ps.length c vs, rdv bb vs ps]) (fun i => ps.length - i) 0 ⟨Nat.zero_le _, _, hE.sel [1, 6, 17, 18, 19] rfl, hM⟩ ?_
    clear hE hM a; rintro i a w9 ⟨hi, vo, hE, hM⟩
    refine wp_seq_k (fun K7 hK7 => ?_)
    refine wp_plain [true] rfl rfl ?_
    refine s_bin hE rfl rfl bin_lss rfl ?_; clear hE a; intro a hE
    refine q_nil ?_
    refine hK7 _ _ ?_
    refine wp_seq_k (fun K8 hK8 => ?_)
    refine hE.split 20 rfl (fun hb20 hE' => ?_) (fun hb20 hE' => ?_)
    · replace hE := hE'; clear hE'
      replace hb20 := of_decide_eq_true hb20
      have hle := rowBs_le dm ps (i + 1)
      rw [rowBs_succ (by omega)] at hle
      simp only [List.length_append, laid_length] at hle
      refine wp_cond_true (hE.eval rfl) ?_
      refine wp_skip ?_
      refine hK8 _ _ ?_
      refine wp_seq_k (fun K9 hK9 => ?_)
      refine wp_block ?_
      refine wp_seq_k (fun K10 hK10 => ?_)
      refine wp_plain [true, true, true] rfl rfl ?_
      refine s_indexRd (j := i) hE rfl (hM.get 1 rfl) rfl slt98 (by first | rfl | omega) (by first | omega | (simp; omega) | decide) rfl ?_; clear hE a; intro a p21 hE hc21 hp21
      rw [elem1 (by omega)] at hc21
      refine s_loadAt1 hE rfl hc21 one82 (by intro X h; cases h) rfl ?_; clear hE a; intro a hE
      refine s_assign hE rfl rfl ?_; clear hE a; intro a hE
      refine q_nil ?_
      replace hE : Env a 32 [(1, _), (6, _), (8, _), (17, _), (18, _), (19, _), (20, _)] := hE.sel [1, 6, 8, 17, 18, 19, 20] rfl
      refine hK10 _ _ ?_
      refine wp_plain [true, true, true, true, false, true, false, true] rfl rfl ?_
      refine s_move hE rfl rfl ?_; clear hE a; intro a hE
      refine s_move hE rfl rfl ?_; clear hE a; intro a hE
      refine s_len hE rfl Tryd.underlying82 (rd_slice (Exists.choose_spec (rdv_get (hM.get 2 rfl) (i := i) (by omega)))) rfl ?_; clear hE a; intro a hE
      refine s_conv hE rfl (cnv_int Tryd.underlying3 Tryd.underlying94 (wrap_u64 (by omega) (by omega))) rfl ?_; clear hE a; intro a hE
      obtain ⟨cl, hpi⟩ := rdv_get (hM.get 2 rfl) (i := i) (by omega)
      refine s_call hE rfl Tryd.call53 (blay_c vo (rowBs dm ps i) 4 (ps.getD i []).length _ (hM.get 0 rfl) (by omega) (by omega)) rfl ?_
      rintro e w10 ⟨vl, rfl, hN⟩
      refine ⟨_, rfl, trivial, ?_⟩; clear hE a; intro a hE
      replace hM : Mem _ _ w10 [_, _, _] := hM.call1' hN ⟨rfl, trivial⟩; clear hN
      refine s_move hE rfl rfl ?_; clear hE a; intro a hE
      obtain ⟨ca, hpi2⟩ := rdv_get (hM.get 2 rfl) (i := i) (by omega)
      refine s_append hE rfl rfl hM sl82 (Src.rd Tryd.underlying82 hpi2 (bv_one _)) (len47 (by omega)) (by omega) (by intro X h; cases h) rfl ?_; clear hE a hpi2; intro a v29 w11 hE hM'; clear hM; have hM := hM'; clear hM'
      refine s_assign hE rfl rfl ?_; clear hE a; intro a hE
      refine q_nil ?_
      replace hE : Env a 32 [(1, _), (6, _), (8, _), (17, _), (18, _), (19, _), (20, _)] := hE.sel [1, 6, 8, 17, 18, 19, 20] rfl
      refine q_block_n ?_
      refine hK9 _ _ ?_
      refine wp_plain [true, true] rfl rfl ?_
      refine s_bin hE rfl rfl (bin_add (wrap_i64 (by omega) (by omega))) rfl ?_; clear hE a; intro a hE
      refine s_move hE rfl rfl ?_; clear hE a; intro a hE
      refine q_nil ?_
      replace hE : Env a 32 [(1, _), (6, _), (8, _), (17, _), (18, _), (19, _), (20, _)] := hE.sel [1, 6, 8, 17, 18, 19, 20] rfl
      replace hE := hE.cast 19 rfl (show _ = Value.int .i64 ((i + 1 : Nat) : Int) from congrArg _ (by omega))
      refine ⟨i + 1, ⟨by omega, _, hE.sel [1, 6, 17, 18, 19] rfl, ?_⟩, by omega⟩
      rw [rowBs_succ (by omega)]; simpa [Nat.add_assoc] using hM
    · replace hE := hE'; clear hE'
      replace hb20 := of_decide_eq_false hb20
      obtain rfl : i = ps.length := by omega
      refine wp_cond_false (hE.eval rfl) ?_
      refine wp_exit ?_
      refine q_then_e ?_
      refine q_then_e ?_
      refine q_block_x ?_
      refine hK5 _ _ ?_
      refine wp_seq_k (fun K9 hK9 => ?_)
      refine wp_plain [true, true, true] rfl rfl ?_
      refine s_move hE rfl rfl ?_; clear hE a; intro a hE
      refine s_assign hE rfl rfl ?_; clear hE a; intro a hE
      refine s_assign hE rfl rfl ?_; clear hE a; intro a hE
      refine q_nil ?_
      replace hE : Env a 32 [(1, _), (4, _), (5, _), (6, _), (17, _), (18, _), (19, _), (20, _)] := hE.sel [1, 4, 5, 6, 17, 18, 19, 20] rfl
      refine hK9 _ _ ?_
      refine wp_ret ?_
      refine f_ret2 hE rfl rfl rfl ?_
      have hq : pRow dm ps = (rowBs dm ps ps.length, 0) := by unfold pRow; rw [if_neg (by omega)]
      rw [hq]; exact ⟨_, rfl, hM.pick [0] rfl⟩
theorem blaid_set {k m i : Nat} (h : i < k) : ((laid k m).take i ++ List.replicate (k - i) (0 : UInt8)).set i (UInt8.ofNat (m / 2 ^ (8 * (k - 1 - i)))) = (laid k m).take (i + 1) ++ List.replicate (k - (i + 1)) 0 := by
  have hl : ((laid k m).take i).length = i := by simp; omega
  obtain ⟨j, hj⟩ : ∃ j, k - i = j + 1 := ⟨k - i - 1, by omega⟩
  rw [hj, show k - (i + 1) = j by omega, List.replicate_succ, List.set_append_right _ _ (by omega), hl, Nat.sub_self, List.set_cons_zero, laid_take_succ h, List.append_assoc]
  rfl
theorem bnumbered_c (dm : UInt8) (z : Int) (s : List UInt8) (w : World) (hs : s.length = 64) : Calls Tryd.prog 44 #[.int .u8 dm.toNat, .int .i64 z, .agg (bv s).toArray] w fun e w' => ∃ v', e = .returned v' ∧ Mem w [] w' [own v' 1 (numT dm z s).length (bv (numT dm z s))] := by
  have hM := Mem.start0 w
  refine f_enter 33 Tryd.func44 rfl rfl rfl ?_
  intro a hE
  replace hE : Env a 33 [(0, _), (1, _), (2, _)] := hE
  refine wp_seq_k (fun K1 hK1 => ?_)
  refine wp_plain [false, true] rfl rfl ?_
  refine s_box (ss := [bv s]) [64] hE hM rfl (by simp [Value.cells]) (by simp [hs]) rfl ?_; clear hE a; intro a b5 w1 hE hM'
  clear hM; have hM := hM'; clear hM'
  refine s_assign hE rfl rfl ?_; clear hE a; intro a hE
  refine q_nil ?_
  replace hE : Env a 33 [(0, _), (1, _), (5, _), (6, _)] := hE.sel [0, 1, 5, 6] rfl
  refine hK1 _ _ ?_
  refine wp_seq_k (fun K2 hK2 => ?_)
  refine wp_plain [false] rfl rfl ?_
  refine s_alloc [8] hE hM zero93 rfl rfl ?_; clear hE a; intro a b7 w2 hE hM'
  clear hM; have hM := hM'; clear hM'
  refine q_nil ?_
  refine hK2 _ _ ?_
  refine wp_seq_k (fun K3 hK3 => ?_)
  refine wp_seq_k (fun K4 hK4 => ?_)
  refine wp_plain [true] rfl rfl ?_
  refine s_move hE rfl rfl ?_; clear hE a; intro a hE
  refine q_nil ?_
  refine hK4 _ _ ?_
  refine wp_block ?_
  refine c_loop (fun (i : Nat) a w' => i ≤ 8 ∧ Env a 33 [(0, .int .u8 dm.toNat), (1, .int .i64 z), (5, .pointer (some ⟨b5, 0, none⟩)), (7, .pointer (some ⟨b7, 0, none⟩)), (11, .int .i64 (i : Int))] ∧ Mem w [] w' [blk b7 [bv ((laid 8 (numW z)).take i ++ List.replicate (8 - i) 0)] [8] 93, blk b5 [bv s] [64] 52]) (fun i => 8 - i) 0 ⟨Nat.zero_le _, hE.sel [0, 1, 5, 7, 11] rfl, by simpa using hM⟩ ?_
  clear hE hM a; rintro i a w3 ⟨hi, hE, hM⟩
  refine wp_seq_k (fun K5 hK5 => ?_)
  refine wp_plain [true] rfl rfl ?_
  refine s_bin hE rfl rfl bin_lss rfl ?_; clear hE a; intro a hE
  refine q_nil ?_
  refine hK5 _ _ ?_
  refine wp_seq_k (fun K6 hK6 => ?_)
  refine hE.split 12 rfl (fun hb12 hE' => ?_) (fun hb12 hE' => ?_)
  · replace hE := hE'; clear hE'
    replace hb12 := of_decide_eq_true hb12
    replace hb12 : i < 8 := by omega
    refine wp_cond_true (hE.eval rfl) ?_
    refine wp_skip ?_
    refine hK6 _ _ ?_
    refine wp_seq_k (fun K7 hK7 => ?_)
    refine wp_block ?_
    refine wp_seq_k (fun K8 hK8 => ?_)
    refine wp_plain [true, true] rfl rfl ?_
    refine s_move hE rfl rfl ?_; clear hE a; intro a hE
    refine s_assign hE rfl rfl ?_; clear hE a; intro a hE
    refine q_nil ?_
    replace hE : Env a 33 [(0, _), (1, _), (5, _), (7, _), (8, _), (11, _), (12, _)] := hE.sel [0, 1, 5, 7, 8, 11, 12] rfl
    refine hK8 _ _ ?_
    refine wp_plain [true, true, true, true, true, true, true, true, true, false] rfl rfl ?_
    refine s_move hE rfl rfl ?_; clear hE a; intro a hE
    refine s_move hE rfl rfl ?_; clear hE a; intro a hE
    refine s_conv hE rfl (cnv_int Tryd.underlying3 Tryd.underlying94 (wrap_u64_any z)) rfl ?_; clear hE a; intro a hE
    refine s_move hE rfl rfl ?_; clear hE a; intro a hE
    refine s_bin hE rfl rfl (show Bin _ _ _ _ _ (.int .i64 ((8 * i : Nat) : Int)) from bin_mul (by rw [wrap_i64 (by omega) (by omega)]; omega)) rfl ?_; clear hE a; intro a hE
    refine s_bin hE rfl rfl (show Bin _ _ _ _ _ (.int .i64 ((56 - 8 * i : Nat) : Int)) from bin_sub (by rw [wrap_i64 (by omega) (by omega)]; omega)) rfl ?_; clear hE a; intro a hE
    refine s_bin hE rfl rfl (bin_shr_nat (s := 8 * (8 - 1 - i)) (by omega) (by show _ ≤ 64; omega)) rfl ?_; clear hE a; intro a hE
    refine s_conv hE rfl (cnv_int Tryd.underlying94 Tryd.underlying5 (wrap_u8_ofNat _)) rfl ?_; clear hE a; intro a hE
    refine s_indexArr (j := i) hE rfl rfl arr93 (by first | rfl | omega) (by omega) rfl ?_; clear hE a; intro a hE
    refine s_storeIdx (j := i) hE rfl (by omega) rfl hM rfl rfl sz5 (by simp; omega) (by intro X h; cases h) ?_; intro w4 hM'; clear hM; have hM := hM'; clear hM'
    first | rw [bv_set'] at hM | rw [bv_setI] at hM
    refine q_nil ?_
    replace hE : Env a 33 [(0, _), (1, _), (5, _), (7, _), (8, _), (11, _), (12, _)] := hE.sel [0, 1, 5, 7, 8, 11, 12] rfl
    refine q_block_n ?_
    refine hK7 _ _ ?_
    refine wp_plain [true, true] rfl rfl ?_
    refine s_bin hE rfl rfl (bin_add (wrap_i64 (by omega) (by omega))) rfl ?_; clear hE a; intro a hE
    refine s_move hE rfl rfl ?_; clear hE a; intro a hE
    refine q_nil ?_
    replace hE : Env a 33 [(0, _), (1, _), (5, _), (7, _), (8, _), (11, _), (12, _)] := hE.sel [0, 1, 5, 7, 8, 11, 12] rfl
    replace hE := hE.cast 11 rfl (show _ = Value.int .i64 ((i + 1 : Nat) : Int) from congrArg _ (by omega))
    rw [blaid_set (by omega)] at hM
    exact ⟨i + 1, ⟨by omega, hE.sel [0, 1, 5, 7, 11] rfl, hM⟩, by omega⟩
  · replace hE := hE'; clear hE'
    replace hb12 := of_decide_eq_false hb12
    replace hb12 : ¬ i < 8 := by omega
    obtain rfl : i = 8 := by omega
    rw [List.take_of_length_le (by simp), show List.replicate (8 - 8) (0 : UInt8) = [] from rfl, List.append_nil] at hM
    refine wp_cond_false (hE.eval rfl) ?_
    refine wp_exit ?_
    refine q_then_e ?_
    refine q_then_e ?_
    refine q_block_x ?_
    refine hK3 _ _ ?_
    refine wp_seq_k (fun K7 hK7 => ?_)
    refine wp_drawnM hM (by kernel_rfl) (fun _ => False) [(0, true), (1, true), (2, true), (3, false), (4, false), (5, true), (6, true), (7, true), (8, true), (9, true)] [(3, [(4, 3), (5, 4), (6, 5), (7, 5), (8, 3), (9, 3)]), (4, [(5, 4), (6, 5), (7, 5), (8, 4), (9, 4)])] (by kernel_rfl) rfl ?_
    intro w4 hM' hww4; clear hM; have hM := hM'; clear hM'
    refine s_move hE rfl rfl ?_; clear hE a; intro a hE
    refine s_sliceArr (l := 0) (h := 8) (mx' := 8) hE rfl arr93 rfl rfl rfl (by simp) (by omega) (by omega) (by omega) rfl ?_; clear hE a; intro a hE
    replace hE := hE.cast 26 rfl (show _ = Value.slice (some ⟨b7, 0, none⟩) 8 8 from rfl)
    refine s_sliceArr (l := 0) (h := 64) (mx' := 64) hE rfl arr52 rfl rfl rfl (by simp) (by omega) (by omega) (by omega) rfl ?_; clear hE a; intro a hE
    replace hE := hE.cast 27 rfl (show _ = Value.slice (some ⟨b5, 0, none⟩) 64 64 from rfl)
    refine s_buildSlice (xs := [.tmp 26, .tmp 27]) ([.slice (some ⟨b7, 0, none⟩) 8 8, .slice (some ⟨b5, 0, none⟩) 64 64]) hE hM sl98 rfl rfl rfl (by intro v hv; simp at hv; rcases hv with rfl | rfl <;> rfl) rfl rfl rfl rfl ?_; clear hE a; intro a v28 w5 hE hM'
    clear hM; have hM := hM'; clear hM'
    obtain ⟨cl, hl⟩ := own_rd (hM.get 0 rfl)
    have h7 := rd_of_arr (hM.get 1 rfl) (by simp)
    have h5 := rd_of_arr (hM.get 2 rfl) hs
    refine s_call hE rfl Tryd.call48 ((by have h := brow_c dm _ [laid 8 (numW z), s] _ _ _ _ hl (rdv_cons (p := laid 8 (numW z)) h7 (rdv_cons (p := s) h5 (rdv_nil _))) (by simp [rowBytes, hs]); rw [numT_ok] at h; exact h)) rfl ?_
    rintro e w6 ⟨vr, rfl, hN⟩
    refine ⟨_, rfl, hN.sta0 _, ?_⟩; clear hE a; intro a hE
    replace hM : Mem _ _ w6 [_, _, _, _] := hM.call0 hN ⟨rfl, trivial⟩; clear hN
    refine s_move hE rfl rfl ?_; clear hE a; intro a hE
    refine s_extract hE rfl rfl rfl ?_; clear hE a; intro a hE
    refine s_extract hE rfl rfl rfl ?_; clear hE a; intro a hE
    refine s_assign hE rfl rfl ?_; clear hE a; intro a hE
    refine s_assign hE rfl rfl ?_; clear hE a; intro a hE
    refine q_nil ?_
    replace hE : Env a 33 [(1, _), (7, _), (9, _), (11, _), (12, _)] := hE.sel [1, 7, 9, 11, 12] rfl
    refine hK7 _ _ ?_
    refine wp_seq_k (fun K8 hK8 => ?_)
    refine wp_plain [true, true] rfl rfl ?_
    refine s_move hE rfl rfl ?_; clear hE a; intro a hE
    refine s_assign hE rfl rfl ?_; clear hE a; intro a hE
    refine q_nil ?_
    replace hE : Env a 33 [(1, _), (6, _), (7, _), (11, _), (12, _)] := hE.sel [1, 6, 7, 11, 12] rfl
    refine hK8 _ _ ?_
    refine wp_ret ?_
    refine f_ret1 hE rfl rfl ?_
    exact ⟨_, rfl, hM.pick [0] rfl⟩
theorem bnodetext_c (z : Int) (s : List UInt8) (w : World) (hs : s.length = 64) : Calls Tryd.prog 35 #[.int .i64 z, .agg (bv s).toArray] w fun e w' => ∃ v', e = .returned v' ∧ Mem w [] w' [own v' 1 (numT 78 z s).length (bv (numT 78 z s))] := by
  have hM := Mem.start0 w
  refine f_enter 8 Tryd.func35 rfl rfl rfl ?_
  intro a hE
  replace hE : Env a 8 [(0, _), (1, _)] := hE
  refine wp_seq_k (fun K1 hK1 => ?_)
  refine wp_plain [false, true] rfl rfl ?_
  refine s_box (ss := [bv s]) [64] hE hM rfl (by simp [Value.cells]) (by simp [hs]) rfl ?_; clear hE a; intro a b3 w1 hE hM'
  clear hM; have hM := hM'; clear hM'
  refine s_assign hE rfl rfl ?_; clear hE a; intro a hE
  refine q_nil ?_
  replace hE : Env a 8 [(0, _), (3, _), (4, _)] := hE.sel [0, 3, 4] rfl
  refine hK1 _ _ ?_
  refine wp_seq_k (fun K2 hK2 => ?_)
  refine wp_plain [true, true, false, true] rfl rfl ?_
  refine s_move hE rfl rfl ?_; clear hE a; intro a hE
  refine s_loadN hE rfl (hM.get 0 rfl) row52 rfl (by intro X h; cases h) rfl ?_; clear hE a; intro a hE
  refine s_call hE rfl Tryd.call44 (bnumbered_c 78 z s _ hs) rfl ?_
  rintro e w2 ⟨vr, rfl, hN⟩
  refine ⟨_, rfl, trivial, ?_⟩; clear hE a; intro a hE
  replace hM : Mem _ _ w2 [_, _] := hM.call0 hN ⟨rfl, trivial⟩; clear hN
  refine s_assign hE rfl rfl ?_; clear hE a; intro a hE
  refine q_nil ?_
  replace hE : Env a 8 [(4, _)] := hE.sel [4] rfl
  refine hK2 _ _ ?_
  refine wp_ret ?_
  refine f_ret1 hE rfl rfl ?_
  exact ⟨_, rfl, hM.pick [0] rfl⟩
theorem bjoin_c (x y : List UInt8) (w : World) (hx : x.length = 32) (hy : y.length = 32) : Calls Tryd.prog 28 #[.agg (bv x).toArray, .agg (bv y).toArray] w fun e w' => e = .returned (.agg (bv (x ++ y)).toArray) ∧ Mem w [] w' [] := by
  have hM := Mem.start0 w
  refine f_enter 12 Tryd.func28 rfl rfl rfl ?_
  intro a hE
  replace hE : Env a 12 [(0, _), (1, _)] := hE
  refine wp_seq_k (fun K1 hK1 => ?_)
  refine wp_plain [false, false, false] rfl rfl ?_
  refine s_box (ss := [bv x]) [32] hE hM rfl (by simp [Value.cells]) (by simp [hx, hy]) rfl ?_; clear hE a; intro a b2 w1 hE hM'
  clear hM; have hM := hM'; clear hM'
  refine s_box (ss := [bv y]) [32] hE hM rfl (by simp [Value.cells]) (by simp [hx, hy]) rfl ?_; clear hE a; intro a b3 w2 hE hM'
  clear hM; have hM := hM'; clear hM'
  refine s_alloc [64] hE hM zero52 rfl rfl ?_; clear hE a; intro a b4 w3 hE hM'
  clear hM; have hM := hM'; clear hM'
  replace hM := hM.resplit (ss' := [bv (List.replicate 32 0), bv (List.replicate 32 0)]) (ns' := [32, 32]) (by simp [← bv_append]) (by simp)
  refine q_nil ?_
  replace hE : Env a 12 [(2, _), (3, _), (4, _)] := hE.sel [2, 3, 4] rfl
  refine hK1 _ _ ?_
  refine wp_seq_k (fun K2 hK2 => ?_)
  refine wp_drawnM2 hM (by kernel_rfl) (fun b => b = b4) (fun _ => True) [(0, true), (1, true)] [(2, false)] [(2, []), (0, [(2, 0)]), (1, [(2, 1)])] (by kernel_rfl) (by kernel_rfl) rfl rfl ?_
  intro w4 hM' hww4; clear hM; have hM := hM'; clear hM'
  refine s_sliceArr (l := 0) (h := 32) (mx' := 64) hE rfl arr52 rfl ⟨_, rfl⟩ rfl (by simp) (by omega) (by omega) (by omega) rfl ?_; clear hE a; intro a hE
  replace hE := hE.cast 5 rfl (show _ = Value.slice (some ⟨b4, 0, none⟩) 32 64 from rfl)
  refine s_sliceArr (l := 0) (h := 32) (mx' := 32) hE rfl arr34 rfl rfl rfl (by simp) (by omega) (by omega) (by omega) rfl ?_; clear hE a; intro a hE
  replace hE := hE.cast 6 rfl (show _ = Value.slice (some ⟨b2, 0, none⟩) 32 32 from rfl)
  refine q_nil (q_ph ?_)
  have hy7 := rd_of_arr (hM.get 2 rfl) hx
  refine s_copySeg 0 hE rfl rfl hM hy7 hx (bv_one _) sl82 rfl (by simp) rfl (by intro X h; cases h; simp) rfl ?_; clear hE a; intro a w5 hE hM'; clear hM; have hM := hM'; clear hM'
  simp only [List.set_cons_zero, List.set_cons_succ] at hM
  refine q_nil ?_
  replace hE : Env a 12 [(3, _), (4, _)] := hE.sel [3, 4] rfl
  refine hK2 _ _ ?_
  refine wp_seq_k (fun K3 hK3 => ?_)
  refine wp_drawnM2 hM (by kernel_rfl) (fun b => b = b4) (fun _ => True) [(0, true), (1, true)] [(2, false)] [(2, []), (0, [(2, 0)]), (1, [(2, 1)])] (by kernel_rfl) (by kernel_rfl) rfl rfl ?_
  intro w6 hM' hww6; clear hM; have hM := hM'; clear hM'
  refine s_sliceArr (l := 32) (h := 64) (mx' := 64) hE rfl arr52 ⟨_, rfl⟩ rfl rfl (by simp) (by omega) (by omega) (by omega) rfl ?_; clear hE a; intro a hE
  replace hE := hE.cast 8 rfl (show _ = Value.slice (some ⟨b4, 32, none⟩) 32 32 from rfl)
  refine s_sliceArr (l := 0) (h := 32) (mx' := 32) hE rfl arr34 rfl rfl rfl (by simp) (by omega) (by omega) (by omega) rfl ?_; clear hE a; intro a hE
  replace hE := hE.cast 9 rfl (show _ = Value.slice (some ⟨b3, 0, none⟩) 32 32 from rfl)
  refine q_nil (q_ph ?_)
  have hy10 := rd_of_arr (hM.get 1 rfl) hy
  refine s_copySeg 1 hE rfl rfl hM hy10 hy (bv_one _) sl82 rfl (by simp) rfl (by intro X h; cases h; simp) rfl ?_; clear hE a; intro a w7 hE hM'; clear hM; have hM := hM'; clear hM'
  simp only [List.set_cons_zero, List.set_cons_succ] at hM
  refine q_nil ?_
  replace hE : Env a 12 [(4, _)] := hE.sel [4] rfl
  refine hK3 _ _ ?_
  refine wp_seq_k (fun K4 hK4 => ?_)
  refine wp_plain [true, false] rfl rfl ?_
  replace hM := hM.resplit (ss' := [bv (x ++ y)]) (ns' := [64]) (by simp) (by simp [hx, hy])
  refine s_loadN hE rfl (hM.get 0 rfl) row52 rfl (by intro X h; cases h) rfl ?_; clear hE a; intro a hE
  refine s_storeSeg 0 hE rfl rfl hM rfl sz52 (by simp [hx, hy]) (bv_one _) rfl (by simp [hx, hy]) rfl (by intro X h; cases h) ?_; intro w8 hM'; clear hM; have hM := hM'; clear hM'
  simp only [List.set_cons_zero, List.set_cons_succ] at hM
  refine q_nil ?_
  replace hE : Env a 12 [(4, _)] := hE.sel [4] rfl
  refine hK4 _ _ ?_
  refine wp_ret ?_
  refine f_ret1 hE rfl (res_cellN rfl (hM.get 0 rfl) row52 rfl) ?_
  exact ⟨rfl, hM.nil⟩
theorem bsplit_c (s : List UInt8) (w : World) (hs : s.length = 64) : Calls Tryd.prog 33 #[.agg (bv s).toArray] w fun e w' => e = .returned (.tuple #[.agg (bv (s.take 32)).toArray, .agg (bv (s.drop 32)).toArray]) ∧ Mem w [] w' [] := by
  have hM := Mem.start0 w
  refine f_enter 10 Tryd.func33 rfl rfl rfl ?_
  intro a hE
  replace hE : Env a 10 [(0, _)] := hE
  refine wp_seq_k (fun K1 hK1 => ?_)
  refine wp_plain [false, false, false] rfl rfl ?_
  refine s_box (ss := [bv s]) [64] hE hM rfl (by simp [Value.cells]) (by simp [hs]) rfl ?_; clear hE a; intro a b1 w1 hE hM'
  clear hM; have hM := hM'; clear hM'
  replace hM := hM.resplit (ss' := [bv (s.take 32), bv (s.drop 32)]) (ns' := [32, 32]) (by simp [← bv_append]) (by simp [hs])
  refine s_alloc [32] hE hM zero34 rfl rfl ?_; clear hE a; intro a b2 w2 hE hM'
  clear hM; have hM := hM'; clear hM'
  refine s_alloc [32] hE hM zero34 rfl rfl ?_; clear hE a; intro a b3 w3 hE hM'
  clear hM; have hM := hM'; clear hM'
  refine q_nil ?_
  replace hE : Env a 10 [(1, _), (2, _), (3, _)] := hE.sel [1, 2, 3] rfl
  refine hK1 _ _ ?_
  refine wp_seq_k (fun K2 hK2 => ?_)
  refine wp_drawnM hM (by kernel_rfl) (fun b => b = b2 ∨ b = b3) [(0, true), (1, true), (2, true), (3, true), (4, true), (5, true), (6, false), (7, false)] [(6, [(7, 6)]), (7, [])] (by kernel_rfl) rfl ?_
  intro w4 hM' hww4; clear hM; have hM := hM'; clear hM'
  refine s_sliceArr (l := 0) (h := 32) (mx' := 64) hE rfl arr52 rfl ⟨_, rfl⟩ rfl (by simp) (by omega) (by omega) (by omega) rfl ?_; clear hE a; intro a hE
  replace hE := hE.cast 4 rfl (show _ = Value.slice (some ⟨b1, 0, none⟩) 32 64 from rfl)
  refine s_toArrP hE rfl Tryd.underlying34 (by decide) rfl ?_; clear hE a; intro a hE
  refine s_loadN hE rfl (hM.get 2 rfl) row34 rfl (by intro X h; cases h; exact fun hx => hx.elim (fun hx => ((apart_of_get hM.apart (i := 2) (j := 1) rfl rfl (by decide)).1 _ (.head _)).1 (by rw [hx]; exact .head _)) (fun hx => ((apart_of_get hM.apart (i := 2) (j := 0) rfl rfl (by decide)).1 _ (.head _)).1 (by rw [hx]; exact .head _))) rfl ?_; clear hE a; intro a hE
  refine s_sliceArr (l := 32) (h := 64) (mx' := 64) hE rfl arr52 ⟨_, rfl⟩ rfl rfl (by simp) (by omega) (by omega) (by omega) rfl ?_; clear hE a; intro a hE
  replace hE := hE.cast 7 rfl (show _ = Value.slice (some ⟨b1, 32, none⟩) 32 32 from rfl)
  refine s_toArrP hE rfl Tryd.underlying34 (by decide) rfl ?_; clear hE a; intro a hE
  refine s_loadN hE rfl (hM.get 2 rfl) row34 rfl (by intro X h; cases h; exact fun hx => hx.elim (fun hx => ((apart_of_get hM.apart (i := 2) (j := 1) rfl rfl (by decide)).1 _ (.head _)).1 (by rw [hx]; exact .head _)) (fun hx => ((apart_of_get hM.apart (i := 2) (j := 0) rfl rfl (by decide)).1 _ (.head _)).1 (by rw [hx]; exact .head _))) rfl ?_; clear hE a; intro a hE
  replace hM : Mem _ _ w4 [_, _, _] := hM.pick [1, 0, 2] rfl
  refine s_storeSeg 0 hE rfl rfl hM rfl sz34 (by simp [hs]) (bv_one _) rfl (by simp) rfl (by intro X h; cases h; first | (simp; done) | simp [valBlocks]) ?_; intro w5 hM'; clear hM; have hM := hM'; clear hM'
  simp only [List.set_cons_zero, List.set_cons_succ] at hM
  replace hM : Mem _ _ w5 [_, _, _] := hM.pick [1, 0, 2] rfl
  refine s_storeSeg 0 hE rfl rfl hM rfl sz34 (by simp [hs]) (bv_one _) rfl (by simp) rfl (by intro X h; cases h; first | (simp; done) | simp [valBlocks]) ?_; intro w6 hM'; clear hM; have hM := hM'; clear hM'
  simp only [List.set_cons_zero, List.set_cons_succ] at hM
  refine q_nil ?_
  replace hE : Env a 10 [(2, _), (3, _)] := hE.sel [2, 3] rfl
  refine hK2 _ _ ?_
  refine wp_ret ?_
  refine f_ret2 hE rfl (res_cellN rfl (hM.get 1 rfl) row34 rfl) (res_cellN rfl (hM.get 0 rfl) row34 rfl) ?_
  exact ⟨rfl, hM.nil⟩
end Go.Proofs.YtacebdngbalkmaaDoor
