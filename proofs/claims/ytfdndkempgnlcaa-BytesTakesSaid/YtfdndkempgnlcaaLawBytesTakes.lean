/- BytesTakes of casematelaw06 returns true for whatever bytes and whatever is taken; they read behind the call as before. No condition. -/
import Derived.Test.YtfdndkempgnlcaaLb
namespace Go.Proofs.Ytfdndkempgnlcaa
open Go Go.Kx
open Go.ChangeShapes Go.WideShapes Go.ChangeAt Go.RowKit
theorem sz5 : (Try.prog.info? 5).map (·.size) = some 1 := by kernel_rfl
theorem fo57_2 : fieldOff Try.prog 57 2 = some 2 := by kernel_rfl
theorem fo57_1 : fieldOff Try.prog 57 1 = some 1 := by kernel_rfl
theorem one3 : OneT Try.prog 3 := OneT.of Try.underlying3 rfl (by kernel_rfl)
theorem fo57_0 : fieldOff Try.prog 57 0 = some 0 := by kernel_rfl
theorem sz3 : (Try.prog.info? 3).map (·.size) = some 1 := by kernel_rfl
theorem zero57 : Zero Try.prog 57 [[.slice none 0 0], [.int .i64 0], [.bool false]] := ⟨.agg ([[.slice none 0 0], [.int .i64 0], [.bool false]] : List (List Value)).flatten.toArray, by kernel_rfl, by kernel_rfl⟩
theorem fpl57 : fldPl Try.prog 57 = some (plc 0 [1, 1, 1]) := by kernel_rfl
theorem slt54 : slT Try.prog 54 = some 2 := by kernel_rfl
theorem fo59_0 : fieldOff Try.prog 59 0 = some 0 := by kernel_rfl
theorem fo59_1 : fieldOff Try.prog 59 1 = some 1 := by kernel_rfl
theorem refWidth_c (x : Int) (w : World) : Calls Try.prog 39 #[.int .i64 x] w fun e w' => e = .returned (.bool (widthB x)) ∧ Mem w [] w' [] := by
  have hM := Mem.start0 w
  refine f_enter 17 Try.func39 rfl rfl rfl ?_
  intro a hE
  replace hE : Env a 17 [(0, _)] := hE
  refine wp_seq_k (fun K1 hK1 => ?_)
  refine wp_plain [true] rfl rfl ?_
  refine s_assign hE rfl rfl ?_; clear hE a; intro a hE
  refine q_nil ?_
  refine hK1 _ _ ?_
  refine wp_seq_k (fun K2 hK2 => ?_)
  refine wp_plain [true, true, true, true, true, true, true, true, true, true, true, true, true, true, true] rfl rfl ?_
  refine s_move hE rfl rfl ?_; clear hE a; intro a hE
  refine s_bin hE rfl rfl bin_eql rfl ?_; clear hE a; intro a hE
  refine s_move hE rfl rfl ?_; clear hE a; intro a hE
  refine hE.split 5 rfl (fun hb5 hE' => ?_) (fun hb5 hE' => ?_)
  · replace hE := hE'; clear hE'
    refine g_no (b := true) hE rfl rfl rfl ?_; clear hE a; intro a hE
    refine g_no (b := true) hE rfl rfl rfl ?_; clear hE a; intro a hE
    refine s_pickt hE rfl rfl rfl ?_; clear hE a; intro a hE
    refine s_move hE rfl rfl ?_; clear hE a; intro a hE
    refine g_no (b := true) hE rfl rfl rfl ?_; clear hE a; intro a hE
    refine g_no (b := true) hE rfl rfl rfl ?_; clear hE a; intro a hE
    refine s_pickt hE rfl rfl rfl ?_; clear hE a; intro a hE
    refine s_move hE rfl rfl ?_; clear hE a; intro a hE
    refine g_no (b := true) hE rfl rfl rfl ?_; clear hE a; intro a hE
    refine g_no (b := true) hE rfl rfl rfl ?_; clear hE a; intro a hE
    refine s_pickt hE rfl rfl rfl ?_; clear hE a; intro a hE
    refine s_assign hE rfl rfl ?_; clear hE a; intro a hE
    refine q_nil ?_
    replace hE : Env a 17 [(2, _)] := hE.sel [2] rfl
    refine hK2 _ _ ?_
    refine wp_ret ?_
    refine f_ret1 hE rfl rfl ?_
    exact ⟨by simp [widthB, hb5], hM⟩
  · replace hE := hE'; clear hE'
    refine g_yes hE rfl rfl ?_
    refine s_move hE rfl rfl ?_; clear hE a; intro a hE
    refine g_yes hE rfl rfl ?_
    refine s_bin hE rfl rfl bin_eql rfl ?_; clear hE a; intro a hE
    refine s_pickf hE rfl rfl rfl ?_; clear hE a; intro a hE
    refine s_move hE rfl rfl ?_; clear hE a; intro a hE
    refine hE.split 9 rfl (fun hb9 hE' => ?_) (fun hb9 hE' => ?_)
    · replace hE := hE'; clear hE'
      refine g_no (b := true) hE rfl rfl rfl ?_; clear hE a; intro a hE
      refine g_no (b := true) hE rfl rfl rfl ?_; clear hE a; intro a hE
      refine s_pickt hE rfl rfl rfl ?_; clear hE a; intro a hE
      refine s_move hE rfl rfl ?_; clear hE a; intro a hE
      refine g_no (b := true) hE rfl rfl rfl ?_; clear hE a; intro a hE
      refine g_no (b := true) hE rfl rfl rfl ?_; clear hE a; intro a hE
      refine s_pickt hE rfl rfl rfl ?_; clear hE a; intro a hE
      refine s_assign hE rfl rfl ?_; clear hE a; intro a hE
      refine q_nil ?_
      replace hE : Env a 17 [(2, _)] := hE.sel [2] rfl
      refine hK2 _ _ ?_
      refine wp_ret ?_
      refine f_ret1 hE rfl rfl ?_
      exact ⟨by simp [widthB, hb5, hb9], hM⟩
    · replace hE := hE'; clear hE'
      refine g_yes hE rfl rfl ?_
      refine s_move hE rfl rfl ?_; clear hE a; intro a hE
      refine g_yes hE rfl rfl ?_
      refine s_bin hE rfl rfl bin_eql rfl ?_; clear hE a; intro a hE
      refine s_pickf hE rfl rfl rfl ?_; clear hE a; intro a hE
      refine s_move hE rfl rfl ?_; clear hE a; intro a hE
      refine hE.split 13 rfl (fun hb13 hE' => ?_) (fun hb13 hE' => ?_)
      · replace hE := hE'; clear hE'
        refine g_no (b := true) hE rfl rfl rfl ?_; clear hE a; intro a hE
        refine g_no (b := true) hE rfl rfl rfl ?_; clear hE a; intro a hE
        refine s_pickt hE rfl rfl rfl ?_; clear hE a; intro a hE
        refine s_assign hE rfl rfl ?_; clear hE a; intro a hE
        refine q_nil ?_
        replace hE : Env a 17 [(2, _)] := hE.sel [2] rfl
        refine hK2 _ _ ?_
        refine wp_ret ?_
        refine f_ret1 hE rfl rfl ?_
        exact ⟨by simp [widthB, hb5, hb9, hb13], hM⟩
      · replace hE := hE'; clear hE'
        refine g_yes hE rfl rfl ?_
        refine s_move hE rfl rfl ?_; clear hE a; intro a hE
        refine g_yes hE rfl rfl ?_
        refine s_bin hE rfl rfl bin_eql rfl ?_; clear hE a; intro a hE
        refine s_pickf hE rfl rfl rfl ?_; clear hE a; intro a hE
        refine s_assign hE rfl rfl ?_; clear hE a; intro a hE
        refine q_nil ?_
        replace hE : Env a 17 [(2, _)] := hE.sel [2] rfl
        refine hK2 _ _ ?_
        refine wp_ret ?_
        refine f_ret1 hE rfl rfl ?_
        exact ⟨by simp [widthB, hb5, hb9, hb13], hM⟩
theorem refDigits_c (k m : Nat) (w : World) (hk : k ≤ 8) (hm : m < 2 ^ 64) : Calls Try.prog 35 #[.int .i64 k, .int .u64 m] w fun e w' => ∃ v', e = .returned v' ∧ Mem w [] w' [own v' 1 k (bv (laid k m))] := by
  have hM := Mem.start0 w
  refine f_enter 24 Try.func35 rfl rfl rfl ?_
  intro a hE
  replace hE : Env a 24 [(0, _), (1, _)] := hE
  refine wp_seq_k (fun K1 hK1 => ?_)
  refine wp_plain [true] rfl rfl ?_
  refine s_assign hE rfl rfl ?_; clear hE a; intro a hE
  refine q_nil ?_
  refine hK1 _ _ ?_
  refine wp_seq_k (fun K2 hK2 => ?_)
  refine wp_plain [true, false, true] rfl rfl ?_
  refine s_move hE rfl rfl ?_; clear hE a; intro a hE
  refine s_makeSlice (m := k) (zc := [bV 0]) hE rfl rfl hM sl23 ⟨_, rfl, rfl⟩ rfl rfl (by omega) (by omega) (by decide) rfl ?_; clear hE a; intro a v8 w1 hE hM'; clear hM; have hM := hM'; clear hM'
  replace hM := hM.ownEq (m' := k) (cs' := bv (List.replicate k 0)) rfl (by simp [bv])
  refine s_assign hE rfl rfl ?_; clear hE a; intro a hE
  refine q_nil ?_
  replace hE : Env a 24 [(0, _), (1, _), (4, _), (5, _)] := hE.sel [0, 1, 4, 5] rfl
  refine hK2 _ _ ?_
  refine wp_seq_k (fun K3 hK3 => ?_)
  refine wp_seq_k (fun K4 hK4 => ?_)
  refine wp_plain [true, true, true] rfl rfl ?_
  refine s_move hE rfl rfl ?_; clear hE a; intro a hE
  refine s_bin (r := .int .i64 ((k : Int) - 1)) hE rfl rfl (bin_sub (wrap_i64 (by omega) (by omega))) rfl ?_; clear hE a; intro a hE
  refine s_assign hE rfl rfl ?_; clear hE a; intro a hE
  refine q_nil ?_
  replace hE : Env a 24 [(0, _), (1, _), (4, _), (5, _), (6, _)] := hE.sel [0, 1, 4, 5, 6] rfl
  refine hK4 _ _ ?_
  refine wp_block ?_
  refine c_loop (fun (i : Nat) a w' => ∃ (j n : Nat) (bs : List UInt8), j ≤ k ∧ i = k - j ∧ n = m / 256 ^ (k - j) ∧ n < 2 ^ 64 ∧ bs.length = k ∧ (∀ p, j ≤ p → p < k → bs.getD p 0 = (laid k m).getD p 0) ∧ Env a 24 [(1, .int .u64 n), (5, v8), (6, .int .i64 ((j : Int) - 1))] ∧ Mem w [] w' [own v8 1 k (bv bs)]) (fun i => k - i) 0 ⟨k, m, List.replicate k 0, Nat.le_refl _, by omega, by simp, hm, by simp, fun p h1 h2 => absurd h2 (by omega), hE.sel [1, 5, 6] rfl, hM⟩ ?_
  clear hE hM a; rintro i a w9 ⟨j, n, bs, hj, hi, hn, hnm, hbs, hp, hE, hM⟩
  refine wp_seq_k (fun K5 hK5 => ?_)
  refine wp_seq_k (fun K6 hK6 => ?_)
  refine wp_plain [true, true] rfl rfl ?_
  refine s_move hE rfl rfl ?_; clear hE a; intro a hE
  refine s_bin hE rfl rfl bin_geq rfl ?_; clear hE a; intro a hE
  refine q_nil ?_
  replace hE : Env a 24 [(1, _), (5, _), (6, _), (12, _)] := hE.sel [1, 5, 6, 12] rfl
  refine hK6 _ _ ?_
  refine hE.split 12 rfl (fun hb12 hE' => ?_) (fun hb12 hE' => ?_)
  · replace hE := hE'; clear hE'
    replace hb12 := of_decide_eq_true hb12
    refine wp_cond_true (hE.eval rfl) ?_
    refine wp_skip ?_
    refine hK5 _ _ ?_
    refine wp_seq_k (fun K7 hK7 => ?_)
    refine wp_block ?_
    refine wp_seq_k (fun K8 hK8 => ?_)
    refine wp_plain [true, true, true, true, true, true, false] rfl rfl ?_
    refine s_move hE rfl rfl ?_; clear hE a; intro a hE
    refine s_move hE rfl rfl ?_; clear hE a; intro a hE
    refine s_move hE rfl rfl ?_; clear hE a; intro a hE
    refine s_bin hE rfl rfl (bin_rem_nat (s := 256) (by decide)) rfl ?_; clear hE a; intro a hE
    refine s_conv hE rfl (cnv_int Try.underlying42 Try.underlying5 (by rw [wrap_u8_ofNat, ofNat_mod])) rfl ?_; clear hE a; intro a hE
    refine s_indexOwn (j := (j - 1)) hE rfl (hM.get 0 rfl) rfl slt23 (by first | rfl | omega) (by first | omega | decide) rfl ?_; clear hE a; intro a hE hc20
    refine s_storeOwn (vs := [bV _]) hE rfl rfl hM rfl sz5 rfl (by intro u hu; rw [List.mem_singleton.1 hu]; rfl) (by simp; omega) (by omega) (by intro X h; cases h) ?_; intro w10 hM'; clear hM; have hM := hM'; clear hM'
    refine q_nil ?_
    replace hE : Env a 24 [(1, _), (5, _), (6, _), (12, _)] := hE.sel [1, 5, 6, 12] rfl
    refine hK8 _ _ ?_
    refine wp_plain [true, true, true] rfl rfl ?_
    refine s_move hE rfl rfl ?_; clear hE a; intro a hE
    refine s_bin hE rfl rfl (bin_quo_nat (s := 256) (by decide) (wrap_u64 (by omega) (by have := Nat.div_le_self n 256; omega))) rfl ?_; clear hE a; intro a hE
    refine s_assign hE rfl rfl ?_; clear hE a; intro a hE
    refine q_nil ?_
    replace hE : Env a 24 [(1, _), (5, _), (6, _), (12, _)] := hE.sel [1, 5, 6, 12] rfl
    refine q_block_n ?_
    refine hK7 _ _ ?_
    refine wp_plain [true, true, true] rfl rfl ?_
    refine s_move hE rfl rfl ?_; clear hE a; intro a hE
    refine s_bin hE rfl rfl (bin_sub (wrap_i64 (by omega) (by omega))) rfl ?_; clear hE a; intro a hE
    refine s_assign hE rfl rfl ?_; clear hE a; intro a hE
    refine q_nil ?_
    replace hE : Env a 24 [(1, _), (5, _), (6, _), (12, _)] := hE.sel [1, 5, 6, 12] rfl
    rw [bv_set (by omega)] at hM
    refine ⟨i + 1, ⟨j - 1, n / 256, _, by omega, by omega, ?_, by have := Nat.div_le_self n 256; omega, by simpa using hbs, ?_, (hE.cast 6 rfl (show _ = Value.int .i64 (((j - 1 : Nat) : Int) - 1) from congrArg _ (by omega))).sel [1, 5, 6] rfl, hM⟩, by omega⟩
    · rw [hn, Nat.div_div_eq_div_mul, ← Nat.pow_succ]; congr 2; omega
    · intro p h1 h2
      by_cases e : p = j - 1
      · subst e
        rw [laid_get (by omega), hn]
        simp [List.getD, show j - 1 < bs.length by omega]
        congr 3; omega
      · have := hp p (by omega) h2
        rw [← this]
        simp [List.getD, List.getElem?_set_ne (Ne.symm e)]
  · replace hE := hE'; clear hE'
    replace hb12 := of_decide_eq_false hb12
    refine wp_cond_false (hE.eval rfl) ?_
    refine wp_exit ?_
    refine q_then_e ?_
    refine q_then_e ?_
    refine q_block_x ?_
    refine hK3 _ _ ?_
    refine wp_seq_k (fun K7 hK7 => ?_)
    refine wp_plain [true, true] rfl rfl ?_
    refine s_move hE rfl rfl ?_; clear hE a; intro a hE
    refine s_assign hE rfl rfl ?_; clear hE a; intro a hE
    refine q_nil ?_
    replace hE : Env a 24 [(1, _), (4, _), (5, _), (6, _), (12, _)] := hE.sel [1, 4, 5, 6, 12] rfl
    refine hK7 _ _ ?_
    refine wp_ret ?_
    refine f_ret1 hE rfl rfl ?_
    obtain rfl : j = 0 := by omega
    have e : bs = laid k m := by
      apply List.ext_getElem?
      intro p
      by_cases h : p < k
      · have := hp p (by omega) h
        simp only [List.getD, List.getElem?_eq_getElem (show p < bs.length by omega), List.getElem?_eq_getElem (show p < (laid k m).length by simpa using h), Option.getD_some] at this ⊢
        rw [this]
      · rw [List.getElem?_eq_none (by omega), List.getElem?_eq_none (by simp; omega)]
    subst e
    exact ⟨_, rfl, hM⟩
theorem refValue_c (bs : List UInt8) (v : Value) (c : Nat) (w : World) (hr : (rd v 1 bs.length c (bv bs)).holds w) (hk : bs.length ≤ 8) : Calls Try.prog 36 #[v] w fun e w' => e = .returned (.int .u64 ((val bs : Nat) : Int)) ∧ Mem w [] w' [] := by
  have hM := Mem.startR1 hr rfl
  refine f_enter 20 Try.func36 rfl rfl rfl ?_
  intro a hE
  replace hE : Env a 20 [(0, _)] := hE
  refine wp_seq_k (fun K1 hK1 => ?_)
  refine wp_plain [true] rfl rfl ?_
  refine s_assign hE rfl rfl ?_; clear hE a; intro a hE
  refine q_nil ?_
  refine hK1 _ _ ?_
  refine wp_seq_k (fun K2 hK2 => ?_)
  refine wp_plain [true] rfl rfl ?_
  refine s_assign hE rfl rfl ?_; clear hE a; intro a hE
  refine q_nil ?_
  refine hK2 _ _ ?_
  refine wp_seq_k (fun K3 hK3 => ?_)
  refine wp_seq_k (fun K4 hK4 => ?_)
  refine wp_plain [true] rfl rfl ?_
  refine s_assign hE rfl rfl ?_; clear hE a; intro a hE
  refine q_nil ?_
  refine hK4 _ _ ?_
  refine wp_block ?_
  refine c_loop (fun (i : Nat) a w' => i ≤ bs.length ∧ Env a 20 [(0, v), (3, .int .u64 ((val (bs.take i) : Nat) : Int)), (4, .int .i64 i)] ∧ Mem w [] w' [rd v 1 bs.length c (bv bs)]) (fun i => bs.length - i) 0 ⟨Nat.zero_le _, hE.sel [0, 3, 4] rfl, hM⟩ ?_
  clear hE hM a; rintro i a w9 ⟨hi, hE, hM⟩
  refine wp_seq_k (fun K5 hK5 => ?_)
  refine wp_seq_k (fun K6 hK6 => ?_)
  refine wp_plain [true, true, true, true] rfl rfl ?_
  refine s_move hE rfl rfl ?_; clear hE a; intro a hE
  refine s_move hE rfl rfl ?_; clear hE a; intro a hE
  refine s_len hE rfl Try.underlying23 (rd_slice (hM.get 0 rfl)) rfl ?_; clear hE a; intro a hE
  refine s_bin hE rfl rfl bin_lss rfl ?_; clear hE a; intro a hE
  refine q_nil ?_
  replace hE : Env a 20 [(0, _), (3, _), (4, _), (8, _)] := hE.sel [0, 3, 4, 8] rfl
  refine hK6 _ _ ?_
  refine hE.split 8 rfl (fun hb8 hE' => ?_) (fun hb8 hE' => ?_)
  · replace hE := hE'; clear hE'
    replace hb8 := of_decide_eq_true hb8
    have hv56 := val_lt56 (bs := bs.take i) (by simp; omega)
    have hb8 := (bs.getD i 0).toNat_lt
    refine wp_cond_true (hE.eval rfl) ?_
    refine wp_skip ?_
    refine hK5 _ _ ?_
    refine wp_seq_k (fun K7 hK7 => ?_)
    refine wp_block ?_
    refine wp_plain [true, true, true, true, true, true, true, true, true] rfl rfl ?_
    refine s_move hE rfl rfl ?_; clear hE a; intro a hE
    refine s_bin hE rfl rfl (bin_mul (q := ((256 * val (bs.take i) : Nat) : Int)) (by rw [wrap_u64 (by omega) (by omega)]; omega)) rfl ?_; clear hE a; intro a hE
    refine s_move hE rfl rfl ?_; clear hE a; intro a hE
    refine s_move hE rfl rfl ?_; clear hE a; intro a hE
    refine s_indexRd (j := i) hE rfl (hM.get 0 rfl) rfl slt23 (by first | rfl | omega) (by first | omega | decide) rfl ?_; clear hE a; intro a p15 hE hc15 hp15
    rw [bv_elem (by omega)] at hc15
    refine s_loadAt1 hE rfl hc15 one5 (by intro X h; cases h) rfl ?_; clear hE a; intro a hE
    refine s_conv hE rfl (cnv_int Try.underlying5 Try.underlying42 (wrap_u64 (by omega) (by omega))) rfl ?_; clear hE a; intro a hE
    refine s_bin hE rfl rfl (bin_add (q := ((256 * val (bs.take i) + (bs.getD i 0).toNat : Nat) : Int)) (by rw [wrap_u64 (by omega) (by omega)]; omega)) rfl ?_; clear hE a; intro a hE
    refine s_assign hE rfl rfl ?_; clear hE a; intro a hE
    refine q_nil ?_
    replace hE : Env a 20 [(0, _), (3, _), (4, _), (8, _)] := hE.sel [0, 3, 4, 8] rfl
    refine q_block_n ?_
    refine hK7 _ _ ?_
    refine wp_plain [true, true, true] rfl rfl ?_
    refine s_move hE rfl rfl ?_; clear hE a; intro a hE
    refine s_bin hE rfl rfl (bin_add (wrap_i64 (by omega) (by omega))) rfl ?_; clear hE a; intro a hE
    refine s_assign hE rfl rfl ?_; clear hE a; intro a hE
    refine q_nil ?_
    replace hE : Env a 20 [(0, _), (3, _), (4, _), (8, _)] := hE.sel [0, 3, 4, 8] rfl
    replace hE := hE.cast 4 rfl (show _ = Value.int .i64 ((i + 1 : Nat) : Int) from congrArg _ (by omega))
    refine ⟨i + 1, ⟨by omega, (hE.cast 3 rfl ?_).sel [0, 3, 4] rfl, hM⟩, by omega⟩
    rw [val_take_succ (by omega), Nat.mul_comm]
  · replace hE := hE'; clear hE'
    replace hb8 := of_decide_eq_false hb8
    obtain rfl : i = bs.length := by omega
    refine wp_cond_false (hE.eval rfl) ?_
    refine wp_exit ?_
    refine q_then_e ?_
    refine q_then_e ?_
    refine q_block_x ?_
    refine hK3 _ _ ?_
    refine wp_seq_k (fun K7 hK7 => ?_)
    refine wp_plain [true, true] rfl rfl ?_
    refine s_move hE rfl rfl ?_; clear hE a; intro a hE
    refine s_assign hE rfl rfl ?_; clear hE a; intro a hE
    refine q_nil ?_
    replace hE : Env a 20 [(0, _), (2, _), (3, _), (4, _), (8, _)] := hE.sel [0, 2, 3, 4, 8] rfl
    refine hK7 _ _ ?_
    refine wp_ret ?_
    refine f_ret1 hE rfl rfl ?_
    rw [List.take_length]; exact ⟨rfl, hM.nil⟩
theorem refNum_badw (bs : List UInt8) (v : Value) (x : Int) (m : Nat) (w : World) (hw : widthB x = false) : Calls Try.prog 21 #[v, .int .i64 x, .int .u64 m] w fun e w' => ∃ v', e = .returned (.tuple #[v', .int .i64 (((pNum bs x m).2 : Nat) : Int)]) ∧ Mem w [] w' [own v' 1 (pNum bs x m).1.length (bv (pNum bs x m).1)] := by
  have hM := Mem.start0 w
  refine f_enter 26 Try.func21 rfl rfl rfl ?_
  intro a hE
  replace hE : Env a 26 [(0, _), (1, _), (2, _)] := hE
  refine wp_seq_k (fun K1 hK1 => ?_)
  refine wp_plain [true, true] rfl rfl ?_
  refine s_assign hE rfl rfl ?_; clear hE a; intro a hE
  refine s_assign hE rfl rfl ?_; clear hE a; intro a hE
  refine q_nil ?_
  refine hK1 _ _ ?_
  refine wp_seq_k (fun K2 hK2 => ?_)
  refine wp_seq_k (fun K3 hK3 => ?_)
  refine wp_plain [true, false, true] rfl rfl ?_
  refine s_move hE rfl rfl ?_; clear hE a; intro a hE
  refine s_call hE rfl Try.call39 (refWidth_c _ _) rfl ?_
  rintro e w1 ⟨rfl, hN⟩
  refine ⟨_, rfl, trivial, ?_⟩; clear hE a; intro a hE
  replace hM : Mem _ _ w1 [] := hM.call0 hN trivial; clear hN
  refine s_not hE rfl rfl ?_; clear hE a; intro a hE
  refine q_nil ?_
  replace hE : Env a 26 [(0, _), (1, _), (2, _), (6, _), (7, _), (12, _)] := hE.sel [0, 1, 2, 6, 7, 12] rfl
  refine hK3 _ _ ?_
  replace hE := hE.cast 12 rfl (show _ = Value.bool true from (by rw [hw]; rfl))
  refine wp_cond_true (hE.eval rfl) ?_
  refine wp_seq_k (fun K4 hK4 => ?_)
  refine wp_plain [true, true] rfl rfl ?_
  refine s_assign hE rfl rfl ?_; clear hE a; intro a hE
  refine s_assign hE rfl rfl ?_; clear hE a; intro a hE
  refine q_nil ?_
  refine hK4 _ _ ?_
  refine wp_ret ?_
  refine q_then_r ?_
  refine f_ret2 hE rfl rfl rfl ?_
  have hp : pNum bs x m = ([], 2) := by simp [pNum, numFits, hw]
  rw [hp]; exact ⟨_, rfl, hM.nil.addNil 1⟩
theorem refNum_k (bs : List UInt8) (v : Value) (c : Nat) (k : Nat) (m : Nat) (w : World) (hr : (rd v 1 bs.length c (bv bs)).holds w) (hw : widthB k = true) (hk : k ≤ 8) (hm : m < 2 ^ 64) (hlen : bs.length + 8 ≤ 140737488355328) : Calls Try.prog 21 #[v, .int .i64 k, .int .u64 m] w fun e w' => ∃ v', e = .returned (.tuple #[v', .int .i64 (((pNum bs k m).2 : Nat) : Int)]) ∧ Mem w [] w' [own v' 1 (pNum bs k m).1.length (bv (pNum bs k m).1)] := by
  have hM := Mem.startR1 hr rfl
  refine f_enter 26 Try.func21 rfl rfl rfl ?_
  intro a hE
  replace hE : Env a 26 [(0, _), (1, _), (2, _)] := hE
  refine wp_seq_k (fun K1 hK1 => ?_)
  refine wp_plain [true, true] rfl rfl ?_
  refine s_assign hE rfl rfl ?_; clear hE a; intro a hE
  refine s_assign hE rfl rfl ?_; clear hE a; intro a hE
  refine q_nil ?_
  refine hK1 _ _ ?_
  refine wp_seq_k (fun K2 hK2 => ?_)
  refine wp_seq_k (fun K3 hK3 => ?_)
  refine wp_plain [true, false, true] rfl rfl ?_
  refine s_move hE rfl rfl ?_; clear hE a; intro a hE
  refine s_call hE rfl Try.call39 (refWidth_c _ _) rfl ?_
  rintro e w1 ⟨rfl, hN⟩
  refine ⟨_, rfl, trivial, ?_⟩; clear hE a; intro a hE
  replace hM : Mem _ _ w1 [_] := hM.call0 hN trivial; clear hN
  refine s_not hE rfl rfl ?_; clear hE a; intro a hE
  refine q_nil ?_
  replace hE : Env a 26 [(0, _), (1, _), (2, _), (6, _), (7, _), (12, _)] := hE.sel [0, 1, 2, 6, 7, 12] rfl
  refine hK3 _ _ ?_
  replace hE := hE.cast 12 rfl (show _ = Value.bool false from (by rw [hw]; rfl))
  refine wp_cond_false (hE.eval rfl) ?_
  refine wp_skip ?_
  refine hK2 _ _ ?_
  refine wp_seq_k (fun K4 hK4 => ?_)
  refine wp_plain [true, true, false, true] rfl rfl ?_
  refine s_move hE rfl rfl ?_; clear hE a; intro a hE
  refine s_move hE rfl rfl ?_; clear hE a; intro a hE
  refine s_call hE rfl Try.call35 (refDigits_c k m _ hk hm) rfl ?_
  rintro e w2 ⟨vd, rfl, hN⟩
  refine ⟨_, rfl, trivial, ?_⟩; clear hE a; intro a hE
  replace hM : Mem _ _ w2 [_, _] := hM.call0 hN ⟨rfl, trivial⟩; clear hN
  refine s_assign hE rfl rfl ?_; clear hE a; intro a hE
  refine q_nil ?_
  replace hE : Env a 26 [(0, _), (1, _), (2, _), (6, _), (7, _), (8, _), (12, _)] := hE.sel [0, 1, 2, 6, 7, 8, 12] rfl
  refine hK4 _ _ ?_
  refine wp_seq_k (fun K5 hK5 => ?_)
  refine wp_seq_k (fun K6 hK6 => ?_)
  refine wp_plain [true, false, true, true] rfl rfl ?_
  refine s_move hE rfl rfl ?_; clear hE a; intro a hE
  obtain ⟨cd, hd⟩ := own_rd (hM.get 0 rfl)
  refine s_call hE rfl Try.call36 ((by have h := refValue_c (laid k m) vd cd _ (by rw [laid_length]; exact hd) (by simp; omega); exact h)) rfl ?_
  rintro e w3 ⟨rfl, hN⟩
  refine ⟨_, rfl, trivial, ?_⟩; clear hE a; intro a hE
  replace hM : Mem _ _ w3 [_, _] := hM.call0 hN trivial; clear hN
  refine s_move hE rfl rfl ?_; clear hE a; intro a hE
  refine s_bin hE rfl rfl bin_neq rfl ?_; clear hE a; intro a hE
  refine q_nil ?_
  replace hE : Env a 26 [(0, _), (1, _), (2, _), (6, _), (7, _), (8, _), (12, _), (19, _)] := hE.sel [0, 1, 2, 6, 7, 8, 12, 19] rfl
  refine hK6 _ _ ?_
  refine hE.split 19 rfl (fun hb19 hE' => ?_) (fun hb19 hE' => ?_)
  · replace hE := hE'; clear hE'
    replace hb19 : numFits k m = false := by rw [fits_iff hk hm hw]; exact decide_eq_false (fun h => by rw [h] at hb19; simp at hb19)
    refine wp_cond_true (hE.eval rfl) ?_
    refine wp_seq_k (fun K7 hK7 => ?_)
    refine wp_plain [true, true] rfl rfl ?_
    refine s_assign hE rfl rfl ?_; clear hE a; intro a hE
    refine s_assign hE rfl rfl ?_; clear hE a; intro a hE
    refine q_nil ?_
    refine hK7 _ _ ?_
    refine wp_ret ?_
    refine q_then_r ?_
    refine f_ret2 hE rfl rfl rfl ?_
    have hp : pNum bs k m = ([], 2) := by simp [pNum, hb19]
    rw [hp]; exact ⟨_, rfl, hM.nil.addNil 1⟩
  · replace hE := hE'; clear hE'
    replace hb19 : numFits k m = true := by rw [fits_iff hk hm hw]; exact decide_eq_true (by simp at hb19; omega)
    refine wp_cond_false (hE.eval rfl) ?_
    refine wp_skip ?_
    refine hK5 _ _ ?_
    refine wp_seq_k (fun K7 hK7 => ?_)
    refine wp_plain [true] rfl rfl ?_
    refine s_assign hE rfl rfl ?_; clear hE a; intro a hE
    replace hM := hM.addNil 1
    refine q_nil ?_
    refine hK7 _ _ ?_
    refine wp_seq_k (fun K8 hK8 => ?_)
    refine wp_plain [true, true, false, true] rfl rfl ?_
    refine s_move hE rfl rfl ?_; clear hE a; intro a hE
    refine s_move hE rfl rfl ?_; clear hE a; intro a hE
    have hy := hM.get 2 rfl
    refine s_append hE rfl rfl hM sl23 (Src.rd Try.underlying23 hy (bv_one _)) (len47 (by omega)) (by omega) (by intro X h; cases h) rfl ?_; clear hE a hy; intro a v22 w4 hE hM'
    clear hM; have hM := hM'; clear hM'
    refine s_assign hE rfl rfl ?_; clear hE a; intro a hE
    refine q_nil ?_
    replace hE : Env a 26 [(1, _), (2, _), (6, _), (7, _), (8, _), (9, _), (12, _), (19, _)] := hE.sel [1, 2, 6, 7, 8, 9, 12, 19] rfl
    refine hK8 _ _ ?_
    refine wp_seq_k (fun K9 hK9 => ?_)
    refine wp_plain [true, true, false, true, true] rfl rfl ?_
    refine s_move hE rfl rfl ?_; clear hE a; intro a hE
    refine s_move hE rfl rfl ?_; clear hE a; intro a hE
    obtain ⟨cy, hy⟩ := own_rd (hM.get 1 rfl)
    refine s_append hE rfl rfl hM sl23 (Src.rd Try.underlying23 hy (bv_one _)) (len47 (by omega)) (by omega) (by intro X h; cases h) rfl ?_; clear hE a hy; intro a v25 w5 hE hM'
    clear hM; have hM := hM'; clear hM'
    refine s_assign hE rfl rfl ?_; clear hE a; intro a hE
    refine s_assign hE rfl rfl ?_; clear hE a; intro a hE
    refine q_nil ?_
    replace hE : Env a 26 [(1, _), (2, _), (6, _), (7, _), (8, _), (9, _), (12, _), (19, _)] := hE.sel [1, 2, 6, 7, 8, 9, 12, 19] rfl
    refine hK9 _ _ ?_
    refine wp_ret ?_
    refine f_ret2 hE rfl rfl rfl ?_
    have hp : pNum bs k m = (bs ++ laid k m, 0) := by simp [pNum, hb19]
    rw [hp]; refine ⟨_, rfl, ?_⟩; simpa using hM.pick [0] rfl
theorem refNum_c (bs : List UInt8) (v : Value) (c : Nat) (x : Int) (m : Nat) (w : World) (hr : (rd v 1 bs.length c (bv bs)).holds w) (hm : m < 2 ^ 64) (hlen : bs.length + 8 ≤ 140737488355328) : Calls Try.prog 21 #[v, .int .i64 x, .int .u64 m] w fun e w' => ∃ v', e = .returned (.tuple #[v', .int .i64 (((pNum bs x m).2 : Nat) : Int)]) ∧ Mem w [] w' [own v' 1 (pNum bs x m).1.length (bv (pNum bs x m).1)] := by
  cases hw : widthB x with
  | false => exact refNum_badw bs v x m w hw
  | true =>
    obtain ⟨k, rfl, hk, _⟩ := widthB_nat hw
    exact refNum_k bs v c k m w hr hw hk hm hlen
theorem refText_c (bs : List UInt8) (v : Value) (c : Nat) (s : ByteArray) (w : World) (hr : (rd v 1 bs.length c (bv bs)).holds w) (hlen : bs.length + s.size + 2 ≤ 140737488355328) : Calls Try.prog 23 #[v, .string s] w fun e w' => ∃ v', e = .returned (.tuple #[v', .int .i64 (((pText bs s.data.toList).2 : Nat) : Int)]) ∧ Mem w [] w' [own v' 1 (pText bs s.data.toList).1.length (bv (pText bs s.data.toList).1)] := by
  have hM := Mem.startR1 hr rfl
  have hsz : s.data.toList.length = s.size := rfl
  refine f_enter 22 Try.func23 rfl rfl rfl ?_
  intro a hE
  replace hE : Env a 22 [(0, _), (1, _)] := hE
  refine wp_seq_k (fun K1 hK1 => ?_)
  refine wp_plain [true, true] rfl rfl ?_
  refine s_assign hE rfl rfl ?_; clear hE a; intro a hE
  refine s_assign hE rfl rfl ?_; clear hE a; intro a hE
  refine q_nil ?_
  refine hK1 _ _ ?_
  refine wp_seq_k (fun K2 hK2 => ?_)
  refine wp_seq_k (fun K3 hK3 => ?_)
  refine wp_plain [true, true, true] rfl rfl ?_
  refine s_move hE rfl rfl ?_; clear hE a; intro a hE
  refine s_len_str hE rfl Try.underlying9 rfl ?_; clear hE a; intro a hE
  refine s_bin hE rfl rfl bin_gtr rfl ?_; clear hE a; intro a hE
  refine q_nil ?_
  replace hE : Env a 22 [(0, _), (1, _), (4, _), (5, _), (9, _)] := hE.sel [0, 1, 4, 5, 9] rfl
  refine hK3 _ _ ?_
  refine hE.split 9 rfl (fun hb9 hE' => ?_) (fun hb9 hE' => ?_)
  · replace hE := hE'; clear hE'
    replace hb9 := of_decide_eq_true hb9
    refine wp_cond_true (hE.eval rfl) ?_
    refine wp_seq_k (fun K4 hK4 => ?_)
    refine wp_plain [true, true] rfl rfl ?_
    refine s_assign hE rfl rfl ?_; clear hE a; intro a hE
    refine s_assign hE rfl rfl ?_; clear hE a; intro a hE
    refine q_nil ?_
    refine hK4 _ _ ?_
    refine wp_ret ?_
    refine q_then_r ?_
    refine f_ret2 hE rfl rfl rfl ?_
    have hp : pText bs s.data.toList = ([], 3) := by unfold pText; rw [if_pos (by omega)]
    rw [hp]; exact ⟨_, rfl, hM.nil.addNil 1⟩
  · replace hE := hE'; clear hE'
    replace hb9 := of_decide_eq_false hb9
    refine wp_cond_false (hE.eval rfl) ?_
    refine wp_skip ?_
    refine hK2 _ _ ?_
    refine wp_seq_k (fun K4 hK4 => ?_)
    refine wp_plain [true] rfl rfl ?_
    refine s_assign hE rfl rfl ?_; clear hE a; intro a hE
    replace hM := hM.addNil 1
    refine q_nil ?_
    refine hK4 _ _ ?_
    refine wp_seq_k (fun K5 hK5 => ?_)
    refine wp_plain [true, true, false, true] rfl rfl ?_
    refine s_move hE rfl rfl ?_; clear hE a; intro a hE
    refine s_move hE rfl rfl ?_; clear hE a; intro a hE
    have hy := hM.get 1 rfl
    refine s_append hE rfl rfl hM sl23 (Src.rd Try.underlying23 hy (bv_one _)) (len47 (by omega)) (by omega) (by intro X h; cases h) rfl ?_; clear hE a hy; intro a v12 w1 hE hM'
    clear hM; have hM := hM'; clear hM'
    refine s_assign hE rfl rfl ?_; clear hE a; intro a hE
    refine q_nil ?_
    replace hE : Env a 22 [(1, _), (4, _), (5, _), (6, _), (9, _)] := hE.sel [1, 4, 5, 6, 9] rfl
    refine hK5 _ _ ?_
    refine wp_seq_k (fun K6 hK6 => ?_)
    refine wp_plain [true, true, true, true, false, false, true] rfl rfl ?_
    refine s_move hE rfl rfl ?_; clear hE a; intro a hE
    refine s_move hE rfl rfl ?_; clear hE a; intro a hE
    refine s_len_str hE rfl Try.underlying9 rfl ?_; clear hE a; intro a hE
    refine s_conv hE rfl (cnv_int Try.underlying3 Try.underlying42 (wrap_u64 (by omega) (by omega))) rfl ?_; clear hE a; intro a hE
    refine s_call hE rfl Try.call35 (refDigits_c 2 s.size _ (by omega) (by omega)) rfl ?_
    rintro e w2 ⟨vd, rfl, hN⟩
    refine ⟨_, rfl, trivial, ?_⟩; clear hE a; intro a hE
    replace hM : Mem _ _ w2 [_, _, _] := hM.call0 hN ⟨rfl, trivial⟩; clear hN
    replace hM : Mem _ _ w2 [_, _, _] := hM.pick [1, 0, 2] rfl
    obtain ⟨cy, hy⟩ := own_rd (hM.get 1 rfl)
    refine s_append hE rfl rfl hM sl23 (Src.rd Try.underlying23 hy (bv_one _)) (len47 (by omega)) (by omega) (by intro X h; cases h) rfl ?_; clear hE a hy; intro a v18 w3 hE hM'
    clear hM; have hM := hM'; clear hM'
    replace hM : Mem _ _ w3 [_, _] := hM.pick [0, 2] rfl
    refine s_assign hE rfl rfl ?_; clear hE a; intro a hE
    refine q_nil ?_
    replace hE : Env a 22 [(1, _), (4, _), (5, _), (6, _), (9, _)] := hE.sel [1, 4, 5, 6, 9] rfl
    refine hK6 _ _ ?_
    refine wp_seq_k (fun K7 hK7 => ?_)
    refine wp_plain [true, true, false, true, true] rfl rfl ?_
    refine s_move hE rfl rfl ?_; clear hE a; intro a hE
    refine s_move hE rfl rfl ?_; clear hE a; intro a hE
    refine s_append hE rfl rfl hM sl23 (Src.str Try.underlying9 s) (len47 (by omega)) (by omega) (by intro X h; cases h) rfl ?_; clear hE a; intro a v21 w4 hE hM'; clear hM; have hM := hM'; clear hM'
    refine s_assign hE rfl rfl ?_; clear hE a; intro a hE
    refine s_assign hE rfl rfl ?_; clear hE a; intro a hE
    refine q_nil ?_
    replace hE : Env a 22 [(1, _), (4, _), (5, _), (6, _), (9, _)] := hE.sel [1, 4, 5, 6, 9] rfl
    refine hK7 _ _ ?_
    refine wp_ret ?_
    refine f_ret2 hE rfl rfl rfl ?_
    have hp : pText bs s.data.toList = (bs ++ laid 2 s.size ++ s.data.toList, 0) := by unfold pText; rw [if_neg (by omega)]; rfl
    rw [hp]; refine ⟨_, rfl, ?_⟩; simpa [hsz, Nat.add_assoc] using hM.pick [0] rfl
theorem refTNum_ok (b : Nat) (v : Value) (B : List UInt8) (c q : Nat) (k : Nat) (w : World) (hB : (blk b [[v], [.int .i64 (q : Nat)], [.bool false]] [1, 1, 1] 57).holds w) (hr : (rd v 1 B.length c (bv B)).holds w) (hne : b ∉ rdB v c) (hq : q ≤ B.length) (hlen : B.length ≤ 1000000) (hw : widthB k = true) (hk : q + k ≤ B.length) : Calls Try.prog 28 #[.pointer (some ⟨b, 0, none⟩), .int .i64 k] w fun e w' => e = .returned (.int .u64 ((val ((B.drop q).take k) : Nat) : Int)) ∧ Mem w [b] w' [blk b [[v], [.int .i64 (q + k : Nat)], [.bool false]] [1, 1, 1] 57] := by
  have hM := Mem.startBR hB hr hne
  have hlc := rd_len hr
  have hk8 := widthB_le hw
  refine f_enter 58 Try.func28 rfl rfl rfl ?_
  intro a hE
  replace hE : Env a 58 [(0, _), (1, _)] := hE
  refine wp_seq_k (fun K1 hK1 => ?_)
  refine wp_plain [true] rfl rfl ?_
  refine s_assign hE rfl rfl ?_; clear hE a; intro a hE
  refine q_nil ?_
  refine hK1 _ _ ?_
  refine wp_seq_k (fun K2 hK2 => ?_)
  refine wp_seq_k (fun K3 hK3 => ?_)
  refine wp_drawnM hM (by kernel_rfl) (fun _ => False) [(0, true), (1, true), (2, true), (3, true), (4, true), (5, true), (6, false), (7, true), (8, true), (9, true), (10, true), (11, true), (12, true), (13, true), (14, true), (15, true), (16, true), (17, true), (18, true), (19, true), (20, true), (21, true), (22, true)] [(6, [(7, 6), (8, 7), (9, 6), (10, 9), (11, 9), (12, 9), (13, 9), (14, 9), (15, 9), (16, 9), (17, 16), (18, 17), (19, 9), (20, 9), (21, 9), (22, 9)])] (by kernel_rfl) rfl ?_
  intro w1 hM' hww1; clear hM; have hM := hM'; clear hM'
  refine s_move hE rfl rfl ?_; clear hE a; intro a hE
  refine s_nilCheck hE rfl rfl ?_; clear hE a; intro a hE
  refine s_fieldAddr hE rfl fo57_2 rfl ?_; clear hE a; intro a hE
  refine s_load1 hE rfl (hM.get 0 rfl) rfl one4 (by intro X h; cases h; simp) rfl ?_; clear hE a; intro a hE
  refine s_move hE rfl rfl ?_; clear hE a; intro a hE
  replace hE := hE.cast 10 rfl (show _ = Value.bool false from (congrArg Value.bool (by first | rfl | (simp; omega) | (simp [hw]; done) | exact decide_eq_false (by omega))))
  refine g_yes hE rfl rfl ?_
  refine s_move hE rfl rfl ?_; clear hE a; intro a hE
  refine g_yes hE rfl rfl ?_
  refine s_call hE rfl Try.call39 (refWidth_c _ _) rfl ?_
  rintro e w2 ⟨rfl, hN⟩
  refine ⟨_, rfl, hN.sta0 _, ?_⟩; clear hE a; intro a hE
  replace hM : Mem _ _ w2 [_, _] := hM.call0 hN trivial; clear hN
  refine g_yes hE rfl rfl ?_
  refine s_not hE rfl rfl ?_; clear hE a; intro a hE
  refine s_pickf hE rfl rfl rfl ?_; clear hE a; intro a hE
  refine s_move hE rfl rfl ?_; clear hE a; intro a hE
  replace hE := hE.cast 15 rfl (show _ = Value.bool false from (congrArg Value.bool (by first | rfl | (simp; omega) | (simp [hw]; done) | exact decide_eq_false (by omega))))
  refine g_yes hE rfl rfl ?_
  refine s_move hE rfl rfl ?_; clear hE a; intro a hE
  refine g_yes hE rfl rfl ?_
  refine s_nilCheck hE rfl rfl ?_; clear hE a; intro a hE
  refine g_yes hE rfl rfl ?_
  refine s_fieldAddr hE rfl fo57_1 rfl ?_; clear hE a; intro a hE
  refine g_yes hE rfl rfl ?_
  refine s_load1 hE rfl (hM.get 0 rfl) rfl one3 (by intro X h; cases h; simp) rfl ?_; clear hE a; intro a hE
  refine g_yes hE rfl rfl ?_
  refine s_move hE rfl rfl ?_; clear hE a; intro a hE
  refine g_yes hE rfl rfl ?_
  refine s_bin hE rfl rfl (bin_add (q := ((q + k : Nat) : Int)) (by rw [wrap_i64 (by omega) (by omega)]; omega)) rfl ?_; clear hE a; intro a hE
  refine g_yes hE rfl rfl ?_
  refine s_move hE rfl rfl ?_; clear hE a; intro a hE
  refine g_yes hE rfl rfl ?_
  refine s_nilCheck hE rfl rfl ?_; clear hE a; intro a hE
  refine g_yes hE rfl rfl ?_
  refine s_fieldAddr hE rfl fo57_0 rfl ?_; clear hE a; intro a hE
  refine g_yes hE rfl rfl ?_
  refine s_load1 hE rfl (hM.get 0 rfl) rfl one23 (by intro X h; cases h; simp) rfl ?_; clear hE a; intro a hE
  refine g_yes hE rfl rfl ?_
  refine s_len hE rfl Try.underlying23 (rd_slice (hM.get 1 rfl)) rfl ?_; clear hE a; intro a hE
  refine g_yes hE rfl rfl ?_
  refine s_bin hE rfl rfl bin_gtr rfl ?_; clear hE a; intro a hE
  refine s_pickf hE rfl rfl rfl ?_; clear hE a; intro a hE
  refine q_nil ?_
  replace hE : Env a 58 [(0, _), (1, _), (4, _), (28, _)] := hE.sel [0, 1, 4, 28] rfl
  refine hK3 _ _ ?_
  replace hE := hE.cast 28 rfl (show _ = Value.bool false from (congrArg Value.bool (by first | rfl | (simp; omega) | (simp [hw]; done) | exact decide_eq_false (by omega))))
  refine wp_cond_false (hE.eval rfl) ?_
  refine wp_skip ?_
  refine hK2 _ _ ?_
  refine wp_seq_k (fun K4 hK4 => ?_)
  refine wp_drawnM hM (by kernel_rfl) (fun _ => False) [(0, true), (1, true), (2, true), (3, true), (4, true), (5, true), (6, true), (7, true), (8, true), (9, true), (10, true), (11, true), (12, true), (13, true), (14, true), (15, false), (16, true)] [(15, [(16, 15)])] (by kernel_rfl) rfl ?_
  intro w3 hM' hww3; clear hM; have hM := hM'; clear hM'
  refine s_move hE rfl rfl ?_; clear hE a; intro a hE
  refine s_nilCheck hE rfl rfl ?_; clear hE a; intro a hE
  refine s_fieldAddr hE rfl fo57_0 rfl ?_; clear hE a; intro a hE
  refine s_load1 hE rfl (hM.get 0 rfl) rfl one23 (by intro X h; cases h; simp) rfl ?_; clear hE a; intro a hE
  refine s_move hE rfl rfl ?_; clear hE a; intro a hE
  refine s_nilCheck hE rfl rfl ?_; clear hE a; intro a hE
  refine s_fieldAddr hE rfl fo57_1 rfl ?_; clear hE a; intro a hE
  refine s_load1 hE rfl (hM.get 0 rfl) rfl one3 (by intro X h; cases h; simp) rfl ?_; clear hE a; intro a hE
  refine s_move hE rfl rfl ?_; clear hE a; intro a hE
  refine s_nilCheck hE rfl rfl ?_; clear hE a; intro a hE
  refine s_fieldAddr hE rfl fo57_1 rfl ?_; clear hE a; intro a hE
  refine s_load1 hE rfl (hM.get 0 rfl) rfl one3 (by intro X h; cases h; simp) rfl ?_; clear hE a; intro a hE
  refine s_move hE rfl rfl ?_; clear hE a; intro a hE
  refine s_bin hE rfl rfl (bin_add (q := ((q + k : Nat) : Int)) (by rw [wrap_i64 (by omega) (by omega)]; omega)) rfl ?_; clear hE a; intro a hE
  refine s_slice (l := q) (h := q + k) (mx' := c) hE rfl (hM.get 1 rfl) slt23 ⟨_, rfl⟩ ⟨_, rfl⟩ rfl (by simp) (by omega) (by omega) (by omega) (by omega) rfl ?_; clear hE a; intro a v46 hE hr46 hvb46
  replace hr46 := rd_mid (by omega) hr46
  replace hM := hM.addPart 1 rfl hr46 hvb46; clear hr46
  refine s_call hE rfl Try.call36 (refValue_c ((B.drop q).take (q + k - q)) _ _ _ (hM.get 0 rfl) (by simp; omega)) rfl ?_
  rintro e w4 ⟨rfl, hN⟩
  refine ⟨_, rfl, hN.sta0 _, ?_⟩; clear hE a; intro a hE
  replace hM : Mem _ _ w4 [_, _, _] := hM.call0 hN trivial; clear hN
  rw [show q + k - q = k by omega] at hE
  replace hM : Mem _ _ w4 [_, _] := hM.pick [1, 2] rfl
  refine s_assign hE rfl rfl ?_; clear hE a; intro a hE
  refine q_nil ?_
  replace hE : Env a 58 [(0, _), (1, _), (4, _), (5, _), (28, _)] := hE.sel [0, 1, 4, 5, 28] rfl
  refine hK4 _ _ ?_
  refine wp_seq_k (fun K5 hK5 => ?_)
  refine wp_plain [true, true, true, true, true, true, true, true, true, false] rfl rfl ?_
  refine s_move hE rfl rfl ?_; clear hE a; intro a hE
  refine s_move hE rfl rfl ?_; clear hE a; intro a hE
  refine s_nilCheck hE rfl rfl ?_; clear hE a; intro a hE
  refine s_fieldAddr hE rfl fo57_1 rfl ?_; clear hE a; intro a hE
  refine s_load1 hE rfl (hM.get 0 rfl) rfl one3 (by intro X h; cases h) rfl ?_; clear hE a; intro a hE
  refine s_move hE rfl rfl ?_; clear hE a; intro a hE
  refine s_bin hE rfl rfl (bin_add (q := ((q + k : Nat) : Int)) (by rw [wrap_i64 (by omega) (by omega)]; omega)) rfl ?_; clear hE a; intro a hE
  refine s_nilCheck hE rfl rfl ?_; clear hE a; intro a hE
  refine s_fieldAddr hE rfl fo57_1 rfl ?_; clear hE a; intro a hE
  refine s_store1 1 hE rfl rfl hM rfl rfl sz3 rfl rfl (by intro X h; cases h) ?_; intro w5 hM'; clear hM; have hM := hM'; clear hM'
  refine q_nil ?_
  replace hE : Env a 58 [(0, _), (1, _), (4, _), (5, _), (28, _)] := hE.sel [0, 1, 4, 5, 28] rfl
  refine hK5 _ _ ?_
  refine wp_seq_k (fun K6 hK6 => ?_)
  refine wp_plain [true, true] rfl rfl ?_
  refine s_move hE rfl rfl ?_; clear hE a; intro a hE
  refine s_assign hE rfl rfl ?_; clear hE a; intro a hE
  refine q_nil ?_
  replace hE : Env a 58 [(0, _), (1, _), (4, _), (28, _)] := hE.sel [0, 1, 4, 28] rfl
  refine hK6 _ _ ?_
  refine wp_ret ?_
  refine f_ret1 hE rfl rfl ?_
  exact ⟨rfl, hM.pick [0] rfl⟩
theorem refTNum_bad (b : Nat) (v : Value) (B : List UInt8) (c q : Nat) (t : Bool) (x : Int) (w : World) (hB : (blk b [[v], [.int .i64 (q : Nat)], [.bool t]] [1, 1, 1] 57).holds w) (hr : (rd v 1 B.length c (bv B)).holds w) (hne : b ∉ rdB v c) (hq : q ≤ B.length) (hlen : B.length ≤ 1000000) (h : numOk (B.drop q) t x = false) : Calls Try.prog 28 #[.pointer (some ⟨b, 0, none⟩), .int .i64 x] w fun e w' => e = .returned (.int .u64 0) ∧ Mem w [b] w' [blk b [[v], [.int .i64 (q : Nat)], [.bool true]] [1, 1, 1] 57] := by
  have hM := Mem.startBR hB hr hne
  have hlc := rd_len hr
  refine f_enter 58 Try.func28 rfl rfl rfl ?_
  intro a hE
  replace hE : Env a 58 [(0, _), (1, _)] := hE
  refine wp_seq_k (fun K1 hK1 => ?_)
  refine wp_plain [true] rfl rfl ?_
  refine s_assign hE rfl rfl ?_; clear hE a; intro a hE
  refine q_nil ?_
  refine hK1 _ _ ?_
  refine wp_seq_k (fun K2 hK2 => ?_)
  refine wp_seq_k (fun K3 hK3 => ?_)
  refine wp_drawnM hM (by kernel_rfl) (fun _ => False) [(0, true), (1, true), (2, true), (3, true), (4, true), (5, true), (6, false), (7, true), (8, true), (9, true), (10, true), (11, true), (12, true), (13, true), (14, true), (15, true), (16, true), (17, true), (18, true), (19, true), (20, true), (21, true), (22, true)] [(6, [(7, 6), (8, 7), (9, 6), (10, 9), (11, 9), (12, 9), (13, 9), (14, 9), (15, 9), (16, 9), (17, 16), (18, 17), (19, 9), (20, 9), (21, 9), (22, 9)])] (by kernel_rfl) rfl ?_
  intro w1 hM' hww1; clear hM; have hM := hM'; clear hM'
  refine s_move hE rfl rfl ?_; clear hE a; intro a hE
  refine s_nilCheck hE rfl rfl ?_; clear hE a; intro a hE
  refine s_fieldAddr hE rfl fo57_2 rfl ?_; clear hE a; intro a hE
  refine s_load1 hE rfl (hM.get 0 rfl) rfl one4 (by intro X h; cases h; simp) rfl ?_; clear hE a; intro a hE
  refine s_move hE rfl rfl ?_; clear hE a; intro a hE
  refine hE.split 10 rfl (fun hb10 hE' => ?_) (fun hb10 hE' => ?_)
  · replace hE := hE'; clear hE'
    refine g_no (b := true) hE rfl rfl rfl ?_; clear hE a; intro a hE
    refine g_no (b := true) hE rfl rfl rfl ?_; clear hE a; intro a hE
    refine g_no (b := true) hE rfl rfl rfl ?_; clear hE a; intro a hE
    refine s_pickt hE rfl rfl rfl ?_; clear hE a; intro a hE
    refine s_move hE rfl rfl ?_; clear hE a; intro a hE
    refine g_no (b := true) hE rfl rfl rfl ?_; clear hE a; intro a hE
    refine g_no (b := true) hE rfl rfl rfl ?_; clear hE a; intro a hE
    refine g_no (b := true) hE rfl rfl rfl ?_; clear hE a; intro a hE
    refine g_no (b := true) hE rfl rfl rfl ?_; clear hE a; intro a hE
    refine g_no (b := true) hE rfl rfl rfl ?_; clear hE a; intro a hE
    refine g_no (b := true) hE rfl rfl rfl ?_; clear hE a; intro a hE
    refine g_no (b := true) hE rfl rfl rfl ?_; clear hE a; intro a hE
    refine g_no (b := true) hE rfl rfl rfl ?_; clear hE a; intro a hE
    refine g_no (b := true) hE rfl rfl rfl ?_; clear hE a; intro a hE
    refine g_no (b := true) hE rfl rfl rfl ?_; clear hE a; intro a hE
    refine g_no (b := true) hE rfl rfl rfl ?_; clear hE a; intro a hE
    refine g_no (b := true) hE rfl rfl rfl ?_; clear hE a; intro a hE
    refine s_pickt hE rfl rfl rfl ?_; clear hE a; intro a hE
    refine q_nil ?_
    replace hE : Env a 58 [(0, _), (1, _), (4, _), (28, _)] := hE.sel [0, 1, 4, 28] rfl
    refine hK3 _ _ ?_
    refine wp_cond_true (hE.eval rfl) ?_
    refine wp_seq_k (fun K4 hK4 => ?_)
    refine wp_plain [true, true, true, false] rfl rfl ?_
    refine s_move hE rfl rfl ?_; clear hE a; intro a hE
    refine s_nilCheck hE rfl rfl ?_; clear hE a; intro a hE
    refine s_fieldAddr hE rfl fo57_2 rfl ?_; clear hE a; intro a hE
    refine s_store1 2 hE rfl rfl hM rfl rfl sz4 rfl rfl (by intro X h; cases h) ?_; intro w2 hM'; clear hM; have hM := hM'; clear hM'
    refine q_nil ?_
    replace hE : Env a 58 [(0, _), (1, _), (4, _), (28, _)] := hE.sel [0, 1, 4, 28] rfl
    refine hK4 _ _ ?_
    refine wp_seq_k (fun K5 hK5 => ?_)
    refine wp_plain [true] rfl rfl ?_
    refine s_assign hE rfl rfl ?_; clear hE a; intro a hE
    refine q_nil ?_
    refine hK5 _ _ ?_
    refine wp_ret ?_
    refine q_then_r ?_
    refine f_ret1 hE rfl rfl ?_
    exact ⟨rfl, hM.pick [0] rfl⟩
  · replace hE := hE'; clear hE'
    refine g_yes hE rfl rfl ?_
    refine s_move hE rfl rfl ?_; clear hE a; intro a hE
    refine g_yes hE rfl rfl ?_
    refine s_call hE rfl Try.call39 (refWidth_c _ _) rfl ?_
    rintro e w2 ⟨rfl, hN⟩
    refine ⟨_, rfl, hN.sta0 _, ?_⟩; clear hE a; intro a hE
    replace hM : Mem _ _ w2 [_, _] := hM.call0 hN trivial; clear hN
    refine g_yes hE rfl rfl ?_
    refine s_not hE rfl rfl ?_; clear hE a; intro a hE
    refine s_pickf hE rfl rfl rfl ?_; clear hE a; intro a hE
    refine s_move hE rfl rfl ?_; clear hE a; intro a hE
    refine hE.split 15 rfl (fun hb15 hE' => ?_) (fun hb15 hE' => ?_)
    · replace hE := hE'; clear hE'
      refine g_no (b := true) hE rfl rfl rfl ?_; clear hE a; intro a hE
      refine g_no (b := true) hE rfl rfl rfl ?_; clear hE a; intro a hE
      refine g_no (b := true) hE rfl rfl rfl ?_; clear hE a; intro a hE
      refine g_no (b := true) hE rfl rfl rfl ?_; clear hE a; intro a hE
      refine g_no (b := true) hE rfl rfl rfl ?_; clear hE a; intro a hE
      refine g_no (b := true) hE rfl rfl rfl ?_; clear hE a; intro a hE
      refine g_no (b := true) hE rfl rfl rfl ?_; clear hE a; intro a hE
      refine g_no (b := true) hE rfl rfl rfl ?_; clear hE a; intro a hE
      refine g_no (b := true) hE rfl rfl rfl ?_; clear hE a; intro a hE
      refine g_no (b := true) hE rfl rfl rfl ?_; clear hE a; intro a hE
      refine g_no (b := true) hE rfl rfl rfl ?_; clear hE a; intro a hE
      refine g_no (b := true) hE rfl rfl rfl ?_; clear hE a; intro a hE
      refine s_pickt hE rfl rfl rfl ?_; clear hE a; intro a hE
      refine q_nil ?_
      replace hE : Env a 58 [(0, _), (1, _), (4, _), (28, _)] := hE.sel [0, 1, 4, 28] rfl
      refine hK3 _ _ ?_
      refine wp_cond_true (hE.eval rfl) ?_
      refine wp_seq_k (fun K4 hK4 => ?_)
      refine wp_plain [true, true, true, false] rfl rfl ?_
      refine s_move hE rfl rfl ?_; clear hE a; intro a hE
      refine s_nilCheck hE rfl rfl ?_; clear hE a; intro a hE
      refine s_fieldAddr hE rfl fo57_2 rfl ?_; clear hE a; intro a hE
      refine s_store1 2 hE rfl rfl hM rfl rfl sz4 rfl rfl (by intro X h; cases h) ?_; intro w3 hM'; clear hM; have hM := hM'; clear hM'
      refine q_nil ?_
      replace hE : Env a 58 [(0, _), (1, _), (4, _), (28, _)] := hE.sel [0, 1, 4, 28] rfl
      refine hK4 _ _ ?_
      refine wp_seq_k (fun K5 hK5 => ?_)
      refine wp_plain [true] rfl rfl ?_
      refine s_assign hE rfl rfl ?_; clear hE a; intro a hE
      refine q_nil ?_
      refine hK5 _ _ ?_
      refine wp_ret ?_
      refine q_then_r ?_
      refine f_ret1 hE rfl rfl ?_
      exact ⟨rfl, hM.pick [0] rfl⟩
    · replace hE := hE'; clear hE'
      have hw := not_false' hb15
      obtain ⟨k, rfl, hk8, hk1⟩ := widthB_nat hw
      refine g_yes hE rfl rfl ?_
      refine s_move hE rfl rfl ?_; clear hE a; intro a hE
      refine g_yes hE rfl rfl ?_
      refine s_nilCheck hE rfl rfl ?_; clear hE a; intro a hE
      refine g_yes hE rfl rfl ?_
      refine s_fieldAddr hE rfl fo57_1 rfl ?_; clear hE a; intro a hE
      refine g_yes hE rfl rfl ?_
      refine s_load1 hE rfl (hM.get 0 rfl) rfl one3 (by intro X h; cases h; simp) rfl ?_; clear hE a; intro a hE
      refine g_yes hE rfl rfl ?_
      refine s_move hE rfl rfl ?_; clear hE a; intro a hE
      refine g_yes hE rfl rfl ?_
      refine s_bin hE rfl rfl (bin_add (q := ((q + k : Nat) : Int)) (by rw [wrap_i64 (by omega) (by omega)]; omega)) rfl ?_; clear hE a; intro a hE
      refine g_yes hE rfl rfl ?_
      refine s_move hE rfl rfl ?_; clear hE a; intro a hE
      refine g_yes hE rfl rfl ?_
      refine s_nilCheck hE rfl rfl ?_; clear hE a; intro a hE
      refine g_yes hE rfl rfl ?_
      refine s_fieldAddr hE rfl fo57_0 rfl ?_; clear hE a; intro a hE
      refine g_yes hE rfl rfl ?_
      refine s_load1 hE rfl (hM.get 0 rfl) rfl one23 (by intro X h; cases h; simp) rfl ?_; clear hE a; intro a hE
      refine g_yes hE rfl rfl ?_
      refine s_len hE rfl Try.underlying23 (rd_slice (hM.get 1 rfl)) rfl ?_; clear hE a; intro a hE
      refine g_yes hE rfl rfl ?_
      refine s_bin hE rfl rfl bin_gtr rfl ?_; clear hE a; intro a hE
      refine s_pickf hE rfl rfl rfl ?_; clear hE a; intro a hE
      refine q_nil ?_
      replace hE : Env a 58 [(0, _), (1, _), (4, _), (28, _)] := hE.sel [0, 1, 4, 28] rfl
      refine hK3 _ _ ?_
      refine hE.split 28 rfl (fun hb28 hE' => ?_) (fun hb28 hE' => ?_)
      · replace hE := hE'; clear hE'
        refine wp_cond_true (hE.eval rfl) ?_
        refine wp_seq_k (fun K4 hK4 => ?_)
        refine wp_plain [true, true, true, false] rfl rfl ?_
        refine s_move hE rfl rfl ?_; clear hE a; intro a hE
        refine s_nilCheck hE rfl rfl ?_; clear hE a; intro a hE
        refine s_fieldAddr hE rfl fo57_2 rfl ?_; clear hE a; intro a hE
        refine s_store1 2 hE rfl rfl hM rfl rfl sz4 rfl rfl (by intro X h; cases h) ?_; intro w3 hM'; clear hM; have hM := hM'; clear hM'
        refine q_nil ?_
        replace hE : Env a 58 [(0, _), (1, _), (4, _), (28, _)] := hE.sel [0, 1, 4, 28] rfl
        refine hK4 _ _ ?_
        refine wp_seq_k (fun K5 hK5 => ?_)
        refine wp_plain [true] rfl rfl ?_
        refine s_assign hE rfl rfl ?_; clear hE a; intro a hE
        refine q_nil ?_
        refine hK5 _ _ ?_
        refine wp_ret ?_
        refine q_then_r ?_
        refine f_ret1 hE rfl rfl ?_
        exact ⟨rfl, hM.pick [0] rfl⟩
      · replace hE := hE'; clear hE'
        exfalso; have h28 := of_decide_eq_false hb28; simp [numOk, hw, hb10] at h; omega
theorem refTBytes_ok (b : Nat) (v : Value) (B : List UInt8) (c q : Nat) (k : Nat) (w : World) (hB : (blk b [[v], [.int .i64 (q : Nat)], [.bool false]] [1, 1, 1] 57).holds w) (hr : (rd v 1 B.length c (bv B)).holds w) (hne : b ∉ rdB v c) (hq : q ≤ B.length) (hlen : B.length ≤ 1000000) (hk : q + k ≤ B.length) : Calls Try.prog 29 #[.pointer (some ⟨b, 0, none⟩), .int .i64 k] w fun e w' => ∃ v', e = .returned v' ∧ Mem w [b] w' [own v' 1 ((B.drop q).take k).length (bv ((B.drop q).take k)), blk b [[v], [.int .i64 (q + k : Nat)], [.bool false]] [1, 1, 1] 57] := by
  have hM := Mem.startBR hB hr hne
  have hlc := rd_len hr
  refine f_enter 58 Try.func29 rfl rfl rfl ?_
  intro a hE
  replace hE : Env a 58 [(0, _), (1, _)] := hE
  refine wp_seq_k (fun K1 hK1 => ?_)
  refine wp_plain [true] rfl rfl ?_
  refine s_assign hE rfl rfl ?_; clear hE a; intro a hE
  refine q_nil ?_
  refine hK1 _ _ ?_
  refine wp_seq_k (fun K2 hK2 => ?_)
  refine wp_seq_k (fun K3 hK3 => ?_)
  refine wp_drawnM hM (by kernel_rfl) (fun _ => False) [(0, true), (1, true), (2, true), (3, true), (4, true), (5, true), (6, true), (7, true), (8, true), (9, true), (10, true), (11, true), (12, true), (13, true), (14, true), (15, true), (16, true), (17, true), (18, true), (19, true), (20, true), (21, true)] [] (by kernel_rfl) rfl ?_
  intro w1 hM' hww1; clear hM; have hM := hM'; clear hM'
  refine s_move hE rfl rfl ?_; clear hE a; intro a hE
  refine s_nilCheck hE rfl rfl ?_; clear hE a; intro a hE
  refine s_fieldAddr hE rfl fo57_2 rfl ?_; clear hE a; intro a hE
  refine s_load1 hE rfl (hM.get 0 rfl) rfl one4 (by intro X h; cases h; simp) rfl ?_; clear hE a; intro a hE
  refine s_move hE rfl rfl ?_; clear hE a; intro a hE
  replace hE := hE.cast 10 rfl (show _ = Value.bool false from (congrArg Value.bool (by first | rfl | (simp; omega) | (simp [hw]; done) | exact decide_eq_false (by omega))))
  refine g_yes hE rfl rfl ?_
  refine s_move hE rfl rfl ?_; clear hE a; intro a hE
  refine g_yes hE rfl rfl ?_
  refine s_bin hE rfl rfl bin_lss rfl ?_; clear hE a; intro a hE
  refine s_pickf hE rfl rfl rfl ?_; clear hE a; intro a hE
  refine s_move hE rfl rfl ?_; clear hE a; intro a hE
  replace hE := hE.cast 14 rfl (show _ = Value.bool false from (congrArg Value.bool (by first | rfl | (simp; omega) | (simp [hw]; done) | exact decide_eq_false (by omega))))
  refine g_yes hE rfl rfl ?_
  refine s_move hE rfl rfl ?_; clear hE a; intro a hE
  refine g_yes hE rfl rfl ?_
  refine s_move hE rfl rfl ?_; clear hE a; intro a hE
  refine g_yes hE rfl rfl ?_
  refine s_nilCheck hE rfl rfl ?_; clear hE a; intro a hE
  refine g_yes hE rfl rfl ?_
  refine s_fieldAddr hE rfl fo57_0 rfl ?_; clear hE a; intro a hE
  refine g_yes hE rfl rfl ?_
  refine s_load1 hE rfl (hM.get 0 rfl) rfl one23 (by intro X h; cases h; simp) rfl ?_; clear hE a; intro a hE
  refine g_yes hE rfl rfl ?_
  refine s_len hE rfl Try.underlying23 (rd_slice (hM.get 1 rfl)) rfl ?_; clear hE a; intro a hE
  refine g_yes hE rfl rfl ?_
  refine s_move hE rfl rfl ?_; clear hE a; intro a hE
  refine g_yes hE rfl rfl ?_
  refine s_nilCheck hE rfl rfl ?_; clear hE a; intro a hE
  refine g_yes hE rfl rfl ?_
  refine s_fieldAddr hE rfl fo57_1 rfl ?_; clear hE a; intro a hE
  refine g_yes hE rfl rfl ?_
  refine s_load1 hE rfl (hM.get 0 rfl) rfl one3 (by intro X h; cases h; simp) rfl ?_; clear hE a; intro a hE
  refine g_yes hE rfl rfl ?_
  refine s_bin hE rfl rfl (bin_sub (wrap_i64 (by omega) (by omega))) rfl ?_; clear hE a; intro a hE
  refine g_yes hE rfl rfl ?_
  refine s_bin hE rfl rfl bin_gtr rfl ?_; clear hE a; intro a hE
  refine s_pickf hE rfl rfl rfl ?_; clear hE a; intro a hE
  refine q_nil ?_
  replace hE : Env a 58 [(0, _), (1, _), (4, _), (27, _)] := hE.sel [0, 1, 4, 27] rfl
  refine hK3 _ _ ?_
  replace hE := hE.cast 27 rfl (show _ = Value.bool false from (congrArg Value.bool (by first | rfl | (simp; omega) | (simp [hw]; done) | exact decide_eq_false (by omega))))
  refine wp_cond_false (hE.eval rfl) ?_
  refine wp_skip ?_
  refine hK2 _ _ ?_
  refine wp_seq_k (fun K4 hK4 => ?_)
  refine wp_plain [true] rfl rfl ?_
  refine s_assign hE rfl rfl ?_; clear hE a; intro a hE
  replace hM := hM.addNil 1
  refine q_nil ?_
  refine hK4 _ _ ?_
  refine wp_seq_k (fun K5 hK5 => ?_)
  refine wp_drawnM hM (by kernel_rfl) (fun _ => False) [(0, true), (1, true), (2, true), (3, true), (4, true), (5, true), (6, true), (7, true), (8, true), (9, true), (10, true), (11, true), (12, true), (13, true), (14, true), (15, true), (16, false), (17, true)] [(16, [(17, 16)])] (by kernel_rfl) rfl ?_
  intro w2 hM' hww2; clear hM; have hM := hM'; clear hM'
  refine s_move hE rfl rfl ?_; clear hE a; intro a hE
  refine s_move hE rfl rfl ?_; clear hE a; intro a hE
  refine s_nilCheck hE rfl rfl ?_; clear hE a; intro a hE
  refine s_fieldAddr hE rfl fo57_0 rfl ?_; clear hE a; intro a hE
  refine s_load1 hE rfl (hM.get 1 rfl) rfl one23 (by intro X h; cases h; simp) rfl ?_; clear hE a; intro a hE
  refine s_move hE rfl rfl ?_; clear hE a; intro a hE
  refine s_nilCheck hE rfl rfl ?_; clear hE a; intro a hE
  refine s_fieldAddr hE rfl fo57_1 rfl ?_; clear hE a; intro a hE
  refine s_load1 hE rfl (hM.get 1 rfl) rfl one3 (by intro X h; cases h; simp) rfl ?_; clear hE a; intro a hE
  refine s_move hE rfl rfl ?_; clear hE a; intro a hE
  refine s_nilCheck hE rfl rfl ?_; clear hE a; intro a hE
  refine s_fieldAddr hE rfl fo57_1 rfl ?_; clear hE a; intro a hE
  refine s_load1 hE rfl (hM.get 1 rfl) rfl one3 (by intro X h; cases h; simp) rfl ?_; clear hE a; intro a hE
  refine s_move hE rfl rfl ?_; clear hE a; intro a hE
  refine s_bin hE rfl rfl (bin_add (q := ((q + k : Nat) : Int)) (by rw [wrap_i64 (by omega) (by omega)]; omega)) rfl ?_; clear hE a; intro a hE
  refine s_slice (l := q) (h := q + k) (mx' := c) hE rfl (hM.get 2 rfl) slt23 ⟨_, rfl⟩ ⟨_, rfl⟩ rfl (by simp) (by omega) (by omega) (by omega) (by omega) rfl ?_; clear hE a; intro a v46 hE hr46 hvb46
  replace hr46 := rd_mid (by omega) hr46
  replace hM := hM.addPart 2 rfl hr46 hvb46; clear hr46
  replace hM : Mem _ _ w2 [_, _, _, _] := hM.pick [1, 0, 2, 3] rfl
  have hy := hM.get 1 rfl
  refine s_append hE rfl rfl hM sl23 (Src.rd Try.underlying23 hy (bv_one _)) (len47 (by simp; omega)) (by simp; omega) (by intro X h; cases h; first | (simp; done) | simp [valBlocks]) rfl ?_; clear hE a hy; intro a v47 w3 hE hM'
  clear hM; have hM := hM'; clear hM'
  replace hM : Mem _ _ w3 [_, _, _] := hM.pick [0, 2, 3] rfl
  refine s_assign hE rfl rfl ?_; clear hE a; intro a hE
  refine q_nil ?_
  replace hE : Env a 58 [(0, _), (1, _), (4, _), (5, _), (27, _)] := hE.sel [0, 1, 4, 5, 27] rfl
  refine hK5 _ _ ?_
  refine wp_seq_k (fun K6 hK6 => ?_)
  refine wp_plain [true, true, true, true, true, true, true, true, true, false] rfl rfl ?_
  refine s_move hE rfl rfl ?_; clear hE a; intro a hE
  refine s_move hE rfl rfl ?_; clear hE a; intro a hE
  refine s_nilCheck hE rfl rfl ?_; clear hE a; intro a hE
  refine s_fieldAddr hE rfl fo57_1 rfl ?_; clear hE a; intro a hE
  refine s_load1 hE rfl (hM.get 1 rfl) rfl one3 (by intro X h; cases h) rfl ?_; clear hE a; intro a hE
  refine s_move hE rfl rfl ?_; clear hE a; intro a hE
  refine s_bin hE rfl rfl (bin_add (q := ((q + k : Nat) : Int)) (by rw [wrap_i64 (by omega) (by omega)]; omega)) rfl ?_; clear hE a; intro a hE
  refine s_nilCheck hE rfl rfl ?_; clear hE a; intro a hE
  refine s_fieldAddr hE rfl fo57_1 rfl ?_; clear hE a; intro a hE
  replace hM : Mem _ _ w3 [_, _, _] := hM.pick [1, 0, 2] rfl
  refine s_store1 1 hE rfl rfl hM rfl rfl sz3 rfl rfl (by intro X h; cases h) ?_; intro w4 hM'; clear hM; have hM := hM'; clear hM'
  refine q_nil ?_
  replace hE : Env a 58 [(0, _), (1, _), (4, _), (5, _), (27, _)] := hE.sel [0, 1, 4, 5, 27] rfl
  refine hK6 _ _ ?_
  refine wp_seq_k (fun K7 hK7 => ?_)
  refine wp_plain [true, true] rfl rfl ?_
  refine s_move hE rfl rfl ?_; clear hE a; intro a hE
  refine s_assign hE rfl rfl ?_; clear hE a; intro a hE
  refine q_nil ?_
  replace hE : Env a 58 [(0, _), (1, _), (4, _), (5, _), (27, _)] := hE.sel [0, 1, 4, 5, 27] rfl
  refine hK7 _ _ ?_
  refine wp_ret ?_
  refine f_ret1 hE rfl rfl ?_
  refine ⟨_, rfl, ?_⟩
  replace hM := (hM.pick [1, 0] rfl).ownEq (m' := ((B.drop q).take k).length) (cs' := bv ((B.drop q).take k)) (by simp) (by simp)
  exact hM
theorem refTBytes_bad (b : Nat) (v : Value) (B : List UInt8) (c q : Nat) (t : Bool) (x : Int) (w : World) (hB : (blk b [[v], [.int .i64 (q : Nat)], [.bool t]] [1, 1, 1] 57).holds w) (hr : (rd v 1 B.length c (bv B)).holds w) (hne : b ∉ rdB v c) (hq : q ≤ B.length) (hlen : B.length ≤ 1000000) (h : bytesOk (B.drop q) t x = false) : Calls Try.prog 29 #[.pointer (some ⟨b, 0, none⟩), .int .i64 x] w fun e w' => e = .returned (.slice none 0 0) ∧ Mem w [b] w' [blk b [[v], [.int .i64 (q : Nat)], [.bool true]] [1, 1, 1] 57] := by
  have hM := Mem.startBR hB hr hne
  have hlc := rd_len hr
  refine f_enter 58 Try.func29 rfl rfl rfl ?_
  intro a hE
  replace hE : Env a 58 [(0, _), (1, _)] := hE
  refine wp_seq_k (fun K1 hK1 => ?_)
  refine wp_plain [true] rfl rfl ?_
  refine s_assign hE rfl rfl ?_; clear hE a; intro a hE
  refine q_nil ?_
  refine hK1 _ _ ?_
  refine wp_seq_k (fun K2 hK2 => ?_)
  refine wp_seq_k (fun K3 hK3 => ?_)
  refine wp_drawnM hM (by kernel_rfl) (fun _ => False) [(0, true), (1, true), (2, true), (3, true), (4, true), (5, true), (6, true), (7, true), (8, true), (9, true), (10, true), (11, true), (12, true), (13, true), (14, true), (15, true), (16, true), (17, true), (18, true), (19, true), (20, true), (21, true)] [] (by kernel_rfl) rfl ?_
  intro w1 hM' hww1; clear hM; have hM := hM'; clear hM'
  refine s_move hE rfl rfl ?_; clear hE a; intro a hE
  refine s_nilCheck hE rfl rfl ?_; clear hE a; intro a hE
  refine s_fieldAddr hE rfl fo57_2 rfl ?_; clear hE a; intro a hE
  refine s_load1 hE rfl (hM.get 0 rfl) rfl one4 (by intro X h; cases h; simp) rfl ?_; clear hE a; intro a hE
  refine s_move hE rfl rfl ?_; clear hE a; intro a hE
  refine hE.split 10 rfl (fun hb10 hE' => ?_) (fun hb10 hE' => ?_)
  · replace hE := hE'; clear hE'
    refine g_no (b := true) hE rfl rfl rfl ?_; clear hE a; intro a hE
    refine g_no (b := true) hE rfl rfl rfl ?_; clear hE a; intro a hE
    refine s_pickt hE rfl rfl rfl ?_; clear hE a; intro a hE
    refine s_move hE rfl rfl ?_; clear hE a; intro a hE
    refine g_no (b := true) hE rfl rfl rfl ?_; clear hE a; intro a hE
    refine g_no (b := true) hE rfl rfl rfl ?_; clear hE a; intro a hE
    refine g_no (b := true) hE rfl rfl rfl ?_; clear hE a; intro a hE
    refine g_no (b := true) hE rfl rfl rfl ?_; clear hE a; intro a hE
    refine g_no (b := true) hE rfl rfl rfl ?_; clear hE a; intro a hE
    refine g_no (b := true) hE rfl rfl rfl ?_; clear hE a; intro a hE
    refine g_no (b := true) hE rfl rfl rfl ?_; clear hE a; intro a hE
    refine g_no (b := true) hE rfl rfl rfl ?_; clear hE a; intro a hE
    refine g_no (b := true) hE rfl rfl rfl ?_; clear hE a; intro a hE
    refine g_no (b := true) hE rfl rfl rfl ?_; clear hE a; intro a hE
    refine g_no (b := true) hE rfl rfl rfl ?_; clear hE a; intro a hE
    refine g_no (b := true) hE rfl rfl rfl ?_; clear hE a; intro a hE
    refine s_pickt hE rfl rfl rfl ?_; clear hE a; intro a hE
    refine q_nil ?_
    replace hE : Env a 58 [(0, _), (1, _), (4, _), (27, _)] := hE.sel [0, 1, 4, 27] rfl
    refine hK3 _ _ ?_
    refine wp_cond_true (hE.eval rfl) ?_
    refine wp_seq_k (fun K4 hK4 => ?_)
    refine wp_plain [true, true, true, false] rfl rfl ?_
    refine s_move hE rfl rfl ?_; clear hE a; intro a hE
    refine s_nilCheck hE rfl rfl ?_; clear hE a; intro a hE
    refine s_fieldAddr hE rfl fo57_2 rfl ?_; clear hE a; intro a hE
    refine s_store1 2 hE rfl rfl hM rfl rfl sz4 rfl rfl (by intro X h; cases h) ?_; intro w2 hM'; clear hM; have hM := hM'; clear hM'
    refine q_nil ?_
    replace hE : Env a 58 [(0, _), (1, _), (4, _), (27, _)] := hE.sel [0, 1, 4, 27] rfl
    refine hK4 _ _ ?_
    refine wp_seq_k (fun K5 hK5 => ?_)
    refine wp_plain [true] rfl rfl ?_
    refine s_assign hE rfl rfl ?_; clear hE a; intro a hE
    refine q_nil ?_
    refine hK5 _ _ ?_
    refine wp_ret ?_
    refine q_then_r ?_
    refine f_ret1 hE rfl rfl ?_
    exact ⟨rfl, hM.pick [0] rfl⟩
  · replace hE := hE'; clear hE'
    refine g_yes hE rfl rfl ?_
    refine s_move hE rfl rfl ?_; clear hE a; intro a hE
    refine g_yes hE rfl rfl ?_
    refine s_bin hE rfl rfl bin_lss rfl ?_; clear hE a; intro a hE
    refine s_pickf hE rfl rfl rfl ?_; clear hE a; intro a hE
    refine s_move hE rfl rfl ?_; clear hE a; intro a hE
    refine hE.split 14 rfl (fun hb14 hE' => ?_) (fun hb14 hE' => ?_)
    · replace hE := hE'; clear hE'
      refine g_no (b := true) hE rfl rfl rfl ?_; clear hE a; intro a hE
      refine g_no (b := true) hE rfl rfl rfl ?_; clear hE a; intro a hE
      refine g_no (b := true) hE rfl rfl rfl ?_; clear hE a; intro a hE
      refine g_no (b := true) hE rfl rfl rfl ?_; clear hE a; intro a hE
      refine g_no (b := true) hE rfl rfl rfl ?_; clear hE a; intro a hE
      refine g_no (b := true) hE rfl rfl rfl ?_; clear hE a; intro a hE
      refine g_no (b := true) hE rfl rfl rfl ?_; clear hE a; intro a hE
      refine g_no (b := true) hE rfl rfl rfl ?_; clear hE a; intro a hE
      refine g_no (b := true) hE rfl rfl rfl ?_; clear hE a; intro a hE
      refine g_no (b := true) hE rfl rfl rfl ?_; clear hE a; intro a hE
      refine g_no (b := true) hE rfl rfl rfl ?_; clear hE a; intro a hE
      refine g_no (b := true) hE rfl rfl rfl ?_; clear hE a; intro a hE
      refine s_pickt hE rfl rfl rfl ?_; clear hE a; intro a hE
      refine q_nil ?_
      replace hE : Env a 58 [(0, _), (1, _), (4, _), (27, _)] := hE.sel [0, 1, 4, 27] rfl
      refine hK3 _ _ ?_
      refine wp_cond_true (hE.eval rfl) ?_
      refine wp_seq_k (fun K4 hK4 => ?_)
      refine wp_plain [true, true, true, false] rfl rfl ?_
      refine s_move hE rfl rfl ?_; clear hE a; intro a hE
      refine s_nilCheck hE rfl rfl ?_; clear hE a; intro a hE
      refine s_fieldAddr hE rfl fo57_2 rfl ?_; clear hE a; intro a hE
      refine s_store1 2 hE rfl rfl hM rfl rfl sz4 rfl rfl (by intro X h; cases h) ?_; intro w2 hM'; clear hM; have hM := hM'; clear hM'
      refine q_nil ?_
      replace hE : Env a 58 [(0, _), (1, _), (4, _), (27, _)] := hE.sel [0, 1, 4, 27] rfl
      refine hK4 _ _ ?_
      refine wp_seq_k (fun K5 hK5 => ?_)
      refine wp_plain [true] rfl rfl ?_
      refine s_assign hE rfl rfl ?_; clear hE a; intro a hE
      refine q_nil ?_
      refine hK5 _ _ ?_
      refine wp_ret ?_
      refine q_then_r ?_
      refine f_ret1 hE rfl rfl ?_
      exact ⟨rfl, hM.pick [0] rfl⟩
    · replace hE := hE'; clear hE'
      refine g_yes hE rfl rfl ?_
      refine s_move hE rfl rfl ?_; clear hE a; intro a hE
      refine g_yes hE rfl rfl ?_
      refine s_move hE rfl rfl ?_; clear hE a; intro a hE
      refine g_yes hE rfl rfl ?_
      refine s_nilCheck hE rfl rfl ?_; clear hE a; intro a hE
      refine g_yes hE rfl rfl ?_
      refine s_fieldAddr hE rfl fo57_0 rfl ?_; clear hE a; intro a hE
      refine g_yes hE rfl rfl ?_
      refine s_load1 hE rfl (hM.get 0 rfl) rfl one23 (by intro X h; cases h; simp) rfl ?_; clear hE a; intro a hE
      refine g_yes hE rfl rfl ?_
      refine s_len hE rfl Try.underlying23 (rd_slice (hM.get 1 rfl)) rfl ?_; clear hE a; intro a hE
      refine g_yes hE rfl rfl ?_
      refine s_move hE rfl rfl ?_; clear hE a; intro a hE
      refine g_yes hE rfl rfl ?_
      refine s_nilCheck hE rfl rfl ?_; clear hE a; intro a hE
      refine g_yes hE rfl rfl ?_
      refine s_fieldAddr hE rfl fo57_1 rfl ?_; clear hE a; intro a hE
      refine g_yes hE rfl rfl ?_
      refine s_load1 hE rfl (hM.get 0 rfl) rfl one3 (by intro X h; cases h; simp) rfl ?_; clear hE a; intro a hE
      refine g_yes hE rfl rfl ?_
      refine s_bin hE rfl rfl (bin_sub (wrap_i64 (by omega) (by omega))) rfl ?_; clear hE a; intro a hE
      refine g_yes hE rfl rfl ?_
      refine s_bin hE rfl rfl bin_gtr rfl ?_; clear hE a; intro a hE
      refine s_pickf hE rfl rfl rfl ?_; clear hE a; intro a hE
      refine q_nil ?_
      replace hE : Env a 58 [(0, _), (1, _), (4, _), (27, _)] := hE.sel [0, 1, 4, 27] rfl
      refine hK3 _ _ ?_
      refine hE.split 27 rfl (fun hb27 hE' => ?_) (fun hb27 hE' => ?_)
      · replace hE := hE'; clear hE'
        refine wp_cond_true (hE.eval rfl) ?_
        refine wp_seq_k (fun K4 hK4 => ?_)
        refine wp_plain [true, true, true, false] rfl rfl ?_
        refine s_move hE rfl rfl ?_; clear hE a; intro a hE
        refine s_nilCheck hE rfl rfl ?_; clear hE a; intro a hE
        refine s_fieldAddr hE rfl fo57_2 rfl ?_; clear hE a; intro a hE
        refine s_store1 2 hE rfl rfl hM rfl rfl sz4 rfl rfl (by intro X h; cases h) ?_; intro w2 hM'; clear hM; have hM := hM'; clear hM'
        refine q_nil ?_
        replace hE : Env a 58 [(0, _), (1, _), (4, _), (27, _)] := hE.sel [0, 1, 4, 27] rfl
        refine hK4 _ _ ?_
        refine wp_seq_k (fun K5 hK5 => ?_)
        refine wp_plain [true] rfl rfl ?_
        refine s_assign hE rfl rfl ?_; clear hE a; intro a hE
        refine q_nil ?_
        refine hK5 _ _ ?_
        refine wp_ret ?_
        refine q_then_r ?_
        refine f_ret1 hE rfl rfl ?_
        exact ⟨rfl, hM.pick [0] rfl⟩
      · replace hE := hE'; clear hE'
        exfalso; have h27 := of_decide_eq_false hb27; have h14 := of_decide_eq_false hb14; simp [bytesOk, hb10] at h; omega
theorem refTText_ok (b : Nat) (v : Value) (B : List UInt8) (c q : Nat) (most : Int) (w : World) (hB : (blk b [[v], [.int .i64 (q : Nat)], [.bool false]] [1, 1, 1] 57).holds w) (hr : (rd v 1 B.length c (bv B)).holds w) (hne : b ∉ rdB v c) (hq : q ≤ B.length) (hlen : B.length ≤ 1000000) (h2 : q + 2 ≤ B.length) (hm : (val ((B.drop q).take 2) : Int) ≤ most) (hk : q + 2 + val ((B.drop q).take 2) ≤ B.length) : Calls Try.prog 31 #[.pointer (some ⟨b, 0, none⟩), .int .i64 most] w fun e w' => e = .returned (.string (str ((B.drop (q + 2)).take (val ((B.drop q).take 2))))) ∧ Mem w [b] w' [blk b [[v], [.int .i64 (q + 2 + val ((B.drop q).take 2) : Nat)], [.bool false]] [1, 1, 1] 57] := by
  have hM := Mem.startBR hB hr hne
  have hlc := rd_len hr
  refine f_enter 93 Try.func31 rfl rfl rfl ?_
  intro a hE
  replace hE : Env a 93 [(0, _), (1, _)] := hE
  refine wp_seq_k (fun K1 hK1 => ?_)
  refine wp_plain [true] rfl rfl ?_
  refine s_assign hE rfl rfl ?_; clear hE a; intro a hE
  refine q_nil ?_
  refine hK1 _ _ ?_
  refine wp_seq_k (fun K2 hK2 => ?_)
  refine wp_seq_k (fun K3 hK3 => ?_)
  refine wp_drawnM hM (by kernel_rfl) (fun _ => False) [(0, true), (1, true), (2, true), (3, true), (4, true), (5, true), (6, true), (7, true), (8, true), (9, true), (10, true), (11, true), (12, true), (13, true), (14, true), (15, true), (16, true)] [] (by kernel_rfl) rfl ?_
  intro w1 hM' hww1; clear hM; have hM := hM'; clear hM'
  refine s_move hE rfl rfl ?_; clear hE a; intro a hE
  refine s_nilCheck hE rfl rfl ?_; clear hE a; intro a hE
  refine s_fieldAddr hE rfl fo57_2 rfl ?_; clear hE a; intro a hE
  refine s_load1 hE rfl (hM.get 0 rfl) rfl one4 (by intro X h; cases h; simp) rfl ?_; clear hE a; intro a hE
  refine s_move hE rfl rfl ?_; clear hE a; intro a hE
  replace hE := hE.cast 11 rfl (show _ = Value.bool false from (congrArg Value.bool (by first | rfl | (simp; omega) | (simp [hw]; done) | exact decide_eq_false (by omega))))
  refine g_yes hE rfl rfl ?_
  refine s_move hE rfl rfl ?_; clear hE a; intro a hE
  refine g_yes hE rfl rfl ?_
  refine s_nilCheck hE rfl rfl ?_; clear hE a; intro a hE
  refine g_yes hE rfl rfl ?_
  refine s_fieldAddr hE rfl fo57_1 rfl ?_; clear hE a; intro a hE
  refine g_yes hE rfl rfl ?_
  refine s_load1 hE rfl (hM.get 0 rfl) rfl one3 (by intro X h; cases h; simp) rfl ?_; clear hE a; intro a hE
  refine g_yes hE rfl rfl ?_
  refine s_bin hE rfl rfl (bin_add (q := ((q + 2 : Nat) : Int)) (by rw [wrap_i64 (by omega) (by omega)]; omega)) rfl ?_; clear hE a; intro a hE
  refine g_yes hE rfl rfl ?_
  refine s_move hE rfl rfl ?_; clear hE a; intro a hE
  refine g_yes hE rfl rfl ?_
  refine s_nilCheck hE rfl rfl ?_; clear hE a; intro a hE
  refine g_yes hE rfl rfl ?_
  refine s_fieldAddr hE rfl fo57_0 rfl ?_; clear hE a; intro a hE
  refine g_yes hE rfl rfl ?_
  refine s_load1 hE rfl (hM.get 0 rfl) rfl one23 (by intro X h; cases h; simp) rfl ?_; clear hE a; intro a hE
  refine g_yes hE rfl rfl ?_
  refine s_len hE rfl Try.underlying23 (rd_slice (hM.get 1 rfl)) rfl ?_; clear hE a; intro a hE
  refine g_yes hE rfl rfl ?_
  refine s_bin hE rfl rfl bin_gtr rfl ?_; clear hE a; intro a hE
  refine s_pickf hE rfl rfl rfl ?_; clear hE a; intro a hE
  refine q_nil ?_
  replace hE : Env a 93 [(0, _), (1, _), (4, _), (23, _)] := hE.sel [0, 1, 4, 23] rfl
  refine hK3 _ _ ?_
  replace hE := hE.cast 23 rfl (show _ = Value.bool false from (congrArg Value.bool (by first | rfl | (simp; omega) | (simp [hw]; done) | exact decide_eq_false (by omega))))
  refine wp_cond_false (hE.eval rfl) ?_
  refine wp_skip ?_
  refine hK2 _ _ ?_
  refine wp_seq_k (fun K4 hK4 => ?_)
  refine wp_drawnM hM (by kernel_rfl) (fun _ => False) [(0, true), (1, true), (2, true), (3, true), (4, true), (5, true), (6, true), (7, true), (8, true), (9, true), (10, true), (11, true), (12, true), (13, true), (14, false), (15, true), (16, true)] [(14, [(15, 14), (16, 14)])] (by kernel_rfl) rfl ?_
  intro w2 hM' hww2; clear hM; have hM := hM'; clear hM'
  refine s_move hE rfl rfl ?_; clear hE a; intro a hE
  refine s_nilCheck hE rfl rfl ?_; clear hE a; intro a hE
  refine s_fieldAddr hE rfl fo57_0 rfl ?_; clear hE a; intro a hE
  refine s_load1 hE rfl (hM.get 0 rfl) rfl one23 (by intro X h; cases h; simp) rfl ?_; clear hE a; intro a hE
  refine s_move hE rfl rfl ?_; clear hE a; intro a hE
  refine s_nilCheck hE rfl rfl ?_; clear hE a; intro a hE
  refine s_fieldAddr hE rfl fo57_1 rfl ?_; clear hE a; intro a hE
  refine s_load1 hE rfl (hM.get 0 rfl) rfl one3 (by intro X h; cases h; simp) rfl ?_; clear hE a; intro a hE
  refine s_move hE rfl rfl ?_; clear hE a; intro a hE
  refine s_nilCheck hE rfl rfl ?_; clear hE a; intro a hE
  refine s_fieldAddr hE rfl fo57_1 rfl ?_; clear hE a; intro a hE
  refine s_load1 hE rfl (hM.get 0 rfl) rfl one3 (by intro X h; cases h; simp) rfl ?_; clear hE a; intro a hE
  refine s_bin hE rfl rfl (bin_add (q := ((q + 2 : Nat) : Int)) (by rw [wrap_i64 (by omega) (by omega)]; omega)) rfl ?_; clear hE a; intro a hE
  refine s_slice (l := q) (h := q + 2) (mx' := c) hE rfl (hM.get 1 rfl) slt23 ⟨_, rfl⟩ ⟨_, rfl⟩ rfl (by simp) (by omega) (by omega) (by omega) (by omega) rfl ?_; clear hE a; intro a v40 hE hr40 hvb40
  replace hr40 := rd_mid (by omega) hr40
  replace hM := hM.addPart 1 rfl hr40 hvb40; clear hr40
  refine s_call hE rfl Try.call36 (refValue_c ((B.drop q).take (q + 2 - q)) _ _ _ (hM.get 0 rfl) (by simp; omega)) rfl ?_
  rintro e w3 ⟨rfl, hN⟩
  refine ⟨_, rfl, hN.sta0 _, ?_⟩; clear hE a; intro a hE
  replace hM : Mem _ _ w3 [_, _, _] := hM.call0 hN trivial; clear hN
  rw [show q + 2 - q = 2 by omega] at hE
  replace hM : Mem _ _ w3 [_, _] := hM.pick [1, 2] rfl
  obtain ⟨n, hn⟩ : ∃ n, n = val ((B.drop q).take 2) := ⟨_, rfl⟩
  rw [← hn] at hE
  refine s_conv hE rfl (cnv_int Try.underlying42 Try.underlying3 (wrap_i64 (by omega) (by omega))) rfl ?_; clear hE a; intro a hE
  refine s_assign hE rfl rfl ?_; clear hE a; intro a hE
  refine q_nil ?_
  replace hE : Env a 93 [(0, _), (1, _), (4, _), (5, _), (23, _)] := hE.sel [0, 1, 4, 5, 23] rfl
  refine hK4 _ _ ?_
  refine wp_seq_k (fun K5 hK5 => ?_)
  refine wp_seq_k (fun K6 hK6 => ?_)
  refine wp_drawnM hM (by kernel_rfl) (fun _ => False) [(0, true), (1, true), (2, true), (3, true), (4, true), (5, true), (6, true), (7, true), (8, true), (9, true), (10, true), (11, true), (12, true), (13, true), (14, true), (15, true), (16, true), (17, true)] [] (by kernel_rfl) rfl ?_
  intro w4 hM' hww4; clear hM; have hM := hM'; clear hM'
  refine s_move hE rfl rfl ?_; clear hE a; intro a hE
  refine s_move hE rfl rfl ?_; clear hE a; intro a hE
  refine s_bin hE rfl rfl bin_gtr rfl ?_; clear hE a; intro a hE
  refine s_move hE rfl rfl ?_; clear hE a; intro a hE
  replace hE := hE.cast 46 rfl (show _ = Value.bool false from (congrArg Value.bool (by first | rfl | (simp; omega) | (simp [hw]; done) | exact decide_eq_false (by omega))))
  refine g_yes hE rfl rfl ?_
  refine s_move hE rfl rfl ?_; clear hE a; intro a hE
  refine g_yes hE rfl rfl ?_
  refine s_move hE rfl rfl ?_; clear hE a; intro a hE
  refine g_yes hE rfl rfl ?_
  refine s_nilCheck hE rfl rfl ?_; clear hE a; intro a hE
  refine g_yes hE rfl rfl ?_
  refine s_fieldAddr hE rfl fo57_0 rfl ?_; clear hE a; intro a hE
  refine g_yes hE rfl rfl ?_
  refine s_load1 hE rfl (hM.get 0 rfl) rfl one23 (by intro X h; cases h; simp) rfl ?_; clear hE a; intro a hE
  refine g_yes hE rfl rfl ?_
  refine s_len hE rfl Try.underlying23 (rd_slice (hM.get 1 rfl)) rfl ?_; clear hE a; intro a hE
  refine g_yes hE rfl rfl ?_
  refine s_move hE rfl rfl ?_; clear hE a; intro a hE
  refine g_yes hE rfl rfl ?_
  refine s_nilCheck hE rfl rfl ?_; clear hE a; intro a hE
  refine g_yes hE rfl rfl ?_
  refine s_fieldAddr hE rfl fo57_1 rfl ?_; clear hE a; intro a hE
  refine g_yes hE rfl rfl ?_
  refine s_load1 hE rfl (hM.get 0 rfl) rfl one3 (by intro X h; cases h; simp) rfl ?_; clear hE a; intro a hE
  refine g_yes hE rfl rfl ?_
  refine s_bin hE rfl rfl (bin_sub (wrap_i64 (by omega) (by omega))) rfl ?_; clear hE a; intro a hE
  refine g_yes hE rfl rfl ?_
  refine s_bin hE rfl rfl (bin_sub (wrap_i64 (by omega) (by omega))) rfl ?_; clear hE a; intro a hE
  refine g_yes hE rfl rfl ?_
  refine s_bin hE rfl rfl bin_gtr rfl ?_; clear hE a; intro a hE
  refine s_pickf hE rfl rfl rfl ?_; clear hE a; intro a hE
  refine q_nil ?_
  replace hE : Env a 93 [(0, _), (4, _), (5, _), (23, _), (60, _)] := hE.sel [0, 4, 5, 23, 60] rfl
  refine hK6 _ _ ?_
  replace hE := hE.cast 60 rfl (show _ = Value.bool false from (congrArg Value.bool (by first | rfl | (simp; omega) | (simp [hw]; done) | exact decide_eq_false (by omega))))
  refine wp_cond_false (hE.eval rfl) ?_
  refine wp_skip ?_
  refine hK5 _ _ ?_
  refine wp_seq_k (fun K7 hK7 => ?_)
  refine wp_drawnM hM (by kernel_rfl) (fun _ => False) [(0, true), (1, true), (2, true), (3, true), (4, true), (5, true), (6, true), (7, true), (8, true), (9, true), (10, true), (11, true), (12, true), (13, true), (14, true), (15, true), (16, true), (17, true), (18, true)] [] (by kernel_rfl) rfl ?_
  intro w5 hM' hww5; clear hM; have hM := hM'; clear hM'
  refine s_move hE rfl rfl ?_; clear hE a; intro a hE
  refine s_nilCheck hE rfl rfl ?_; clear hE a; intro a hE
  refine s_fieldAddr hE rfl fo57_0 rfl ?_; clear hE a; intro a hE
  refine s_load1 hE rfl (hM.get 0 rfl) rfl one23 (by intro X h; cases h; simp) rfl ?_; clear hE a; intro a hE
  refine s_move hE rfl rfl ?_; clear hE a; intro a hE
  refine s_nilCheck hE rfl rfl ?_; clear hE a; intro a hE
  refine s_fieldAddr hE rfl fo57_1 rfl ?_; clear hE a; intro a hE
  refine s_load1 hE rfl (hM.get 0 rfl) rfl one3 (by intro X h; cases h; simp) rfl ?_; clear hE a; intro a hE
  refine s_bin hE rfl rfl (bin_add (q := ((q + 2 : Nat) : Int)) (by rw [wrap_i64 (by omega) (by omega)]; omega)) rfl ?_; clear hE a; intro a hE
  refine s_move hE rfl rfl ?_; clear hE a; intro a hE
  refine s_nilCheck hE rfl rfl ?_; clear hE a; intro a hE
  refine s_fieldAddr hE rfl fo57_1 rfl ?_; clear hE a; intro a hE
  refine s_load1 hE rfl (hM.get 0 rfl) rfl one3 (by intro X h; cases h; simp) rfl ?_; clear hE a; intro a hE
  refine s_bin hE rfl rfl (bin_add (q := ((q + 2 : Nat) : Int)) (by rw [wrap_i64 (by omega) (by omega)]; omega)) rfl ?_; clear hE a; intro a hE
  refine s_move hE rfl rfl ?_; clear hE a; intro a hE
  refine s_bin hE rfl rfl (bin_add (q := ((q + 2 + n : Nat) : Int)) (by rw [wrap_i64 (by omega) (by omega)]; omega)) rfl ?_; clear hE a; intro a hE
  refine s_slice (l := q + 2) (h := q + 2 + n) (mx' := c) hE rfl (hM.get 1 rfl) slt23 ⟨_, rfl⟩ ⟨_, rfl⟩ rfl (by simp) (by omega) (by omega) (by omega) (by omega) rfl ?_; clear hE a; intro a v80 hE hr80 hvb80
  replace hr80 := (fun h => by have h := rd_mid (l := q + 2) (h := q + 2 + n) (by omega) h; rw [show q + 2 + n - (q + 2) = n by omega] at h; exact h) hr80
  replace hM := hM.addPart 1 rfl hr80 hvb80; clear hr80
  refine s_toStr hE rfl Try.underlying23 Try.underlying5 Try.underlying9 (hM.get 0 rfl) (by intro X h; cases h; simp) rfl ?_; clear hE a; intro a hE
  refine s_assign hE rfl rfl ?_; clear hE a; intro a hE
  refine q_nil ?_
  replace hE : Env a 93 [(0, _), (4, _), (5, _), (6, _), (23, _), (60, _)] := hE.sel [0, 4, 5, 6, 23, 60] rfl
  refine hK7 _ _ ?_
  refine wp_seq_k (fun K8 hK8 => ?_)
  refine wp_plain [true, true, true, true, true, true, true, true, true, true, false] rfl rfl ?_
  refine s_move hE rfl rfl ?_; clear hE a; intro a hE
  refine s_move hE rfl rfl ?_; clear hE a; intro a hE
  refine s_nilCheck hE rfl rfl ?_; clear hE a; intro a hE
  refine s_fieldAddr hE rfl fo57_1 rfl ?_; clear hE a; intro a hE
  refine s_load1 hE rfl (hM.get 1 rfl) rfl one3 (by intro X h; cases h) rfl ?_; clear hE a; intro a hE
  refine s_bin hE rfl rfl (bin_add (q := ((q + 2 : Nat) : Int)) (by rw [wrap_i64 (by omega) (by omega)]; omega)) rfl ?_; clear hE a; intro a hE
  refine s_move hE rfl rfl ?_; clear hE a; intro a hE
  refine s_bin hE rfl rfl (bin_add (q := ((q + 2 + n : Nat) : Int)) (by rw [wrap_i64 (by omega) (by omega)]; omega)) rfl ?_; clear hE a; intro a hE
  refine s_nilCheck hE rfl rfl ?_; clear hE a; intro a hE
  refine s_fieldAddr hE rfl fo57_1 rfl ?_; clear hE a; intro a hE
  replace hM : Mem _ _ w5 [_, _, _] := hM.pick [1, 0, 2] rfl
  refine s_store1 1 hE rfl rfl hM rfl rfl sz3 rfl rfl (by intro X h; cases h) ?_; intro w6 hM'; clear hM; have hM := hM'; clear hM'
  refine q_nil ?_
  replace hE : Env a 93 [(0, _), (4, _), (5, _), (6, _), (23, _), (60, _)] := hE.sel [0, 4, 5, 6, 23, 60] rfl
  refine hK8 _ _ ?_
  refine wp_seq_k (fun K9 hK9 => ?_)
  refine wp_plain [true, true] rfl rfl ?_
  refine s_move hE rfl rfl ?_; clear hE a; intro a hE
  refine s_assign hE rfl rfl ?_; clear hE a; intro a hE
  refine q_nil ?_
  replace hE : Env a 93 [(0, _), (4, _), (5, _), (23, _), (60, _)] := hE.sel [0, 4, 5, 23, 60] rfl
  refine hK9 _ _ ?_
  refine wp_ret ?_
  refine f_ret1 hE rfl rfl ?_
  rw [← hn]; exact ⟨rfl, hM.pick [0] rfl⟩
theorem refTText_bad (b : Nat) (v : Value) (B : List UInt8) (c q : Nat) (t : Bool) (most : Int) (w : World) (hB : (blk b [[v], [.int .i64 (q : Nat)], [.bool t]] [1, 1, 1] 57).holds w) (hr : (rd v 1 B.length c (bv B)).holds w) (hne : b ∉ rdB v c) (hq : q ≤ B.length) (hlen : B.length ≤ 1000000) (h : textOk (B.drop q) t most = false) : Calls Try.prog 31 #[.pointer (some ⟨b, 0, none⟩), .int .i64 most] w fun e w' => e = .returned (.string .empty) ∧ Mem w [b] w' [blk b [[v], [.int .i64 (q : Nat)], [.bool true]] [1, 1, 1] 57] := by
  have hM := Mem.startBR hB hr hne
  have hlc := rd_len hr
  refine f_enter 93 Try.func31 rfl rfl rfl ?_
  intro a hE
  replace hE : Env a 93 [(0, _), (1, _)] := hE
  refine wp_seq_k (fun K1 hK1 => ?_)
  refine wp_plain [true] rfl rfl ?_
  refine s_assign hE rfl rfl ?_; clear hE a; intro a hE
  refine q_nil ?_
  refine hK1 _ _ ?_
  refine wp_seq_k (fun K2 hK2 => ?_)
  refine wp_seq_k (fun K3 hK3 => ?_)
  refine wp_drawnM hM (by kernel_rfl) (fun _ => False) [(0, true), (1, true), (2, true), (3, true), (4, true), (5, true), (6, true), (7, true), (8, true), (9, true), (10, true), (11, true), (12, true), (13, true), (14, true), (15, true), (16, true)] [] (by kernel_rfl) rfl ?_
  intro w1 hM' hww1; clear hM; have hM := hM'; clear hM'
  refine s_move hE rfl rfl ?_; clear hE a; intro a hE
  refine s_nilCheck hE rfl rfl ?_; clear hE a; intro a hE
  refine s_fieldAddr hE rfl fo57_2 rfl ?_; clear hE a; intro a hE
  refine s_load1 hE rfl (hM.get 0 rfl) rfl one4 (by intro X h; cases h; simp) rfl ?_; clear hE a; intro a hE
  refine s_move hE rfl rfl ?_; clear hE a; intro a hE
  refine hE.split 11 rfl (fun hb11 hE' => ?_) (fun hb11 hE' => ?_)
  · replace hE := hE'; clear hE'
    refine g_no (b := true) hE rfl rfl rfl ?_; clear hE a; intro a hE
    refine g_no (b := true) hE rfl rfl rfl ?_; clear hE a; intro a hE
    refine g_no (b := true) hE rfl rfl rfl ?_; clear hE a; intro a hE
    refine g_no (b := true) hE rfl rfl rfl ?_; clear hE a; intro a hE
    refine g_no (b := true) hE rfl rfl rfl ?_; clear hE a; intro a hE
    refine g_no (b := true) hE rfl rfl rfl ?_; clear hE a; intro a hE
    refine g_no (b := true) hE rfl rfl rfl ?_; clear hE a; intro a hE
    refine g_no (b := true) hE rfl rfl rfl ?_; clear hE a; intro a hE
    refine g_no (b := true) hE rfl rfl rfl ?_; clear hE a; intro a hE
    refine g_no (b := true) hE rfl rfl rfl ?_; clear hE a; intro a hE
    refine g_no (b := true) hE rfl rfl rfl ?_; clear hE a; intro a hE
    refine s_pickt hE rfl rfl rfl ?_; clear hE a; intro a hE
    refine q_nil ?_
    replace hE : Env a 93 [(0, _), (1, _), (4, _), (23, _)] := hE.sel [0, 1, 4, 23] rfl
    refine hK3 _ _ ?_
    refine wp_cond_true (hE.eval rfl) ?_
    refine wp_seq_k (fun K4 hK4 => ?_)
    refine wp_plain [true, true, true, false] rfl rfl ?_
    refine s_move hE rfl rfl ?_; clear hE a; intro a hE
    refine s_nilCheck hE rfl rfl ?_; clear hE a; intro a hE
    refine s_fieldAddr hE rfl fo57_2 rfl ?_; clear hE a; intro a hE
    refine s_store1 2 hE rfl rfl hM rfl rfl sz4 rfl rfl (by intro X h; cases h) ?_; intro w2 hM'; clear hM; have hM := hM'; clear hM'
    refine q_nil ?_
    replace hE : Env a 93 [(0, _), (1, _), (4, _), (23, _)] := hE.sel [0, 1, 4, 23] rfl
    refine hK4 _ _ ?_
    refine wp_seq_k (fun K5 hK5 => ?_)
    refine wp_plain [true] rfl rfl ?_
    refine s_assign hE rfl rfl ?_; clear hE a; intro a hE
    refine q_nil ?_
    refine hK5 _ _ ?_
    refine wp_ret ?_
    refine q_then_r ?_
    refine f_ret1 hE rfl rfl ?_
    exact ⟨rfl, hM.pick [0] rfl⟩
  · replace hE := hE'; clear hE'
    refine g_yes hE rfl rfl ?_
    refine s_move hE rfl rfl ?_; clear hE a; intro a hE
    refine g_yes hE rfl rfl ?_
    refine s_nilCheck hE rfl rfl ?_; clear hE a; intro a hE
    refine g_yes hE rfl rfl ?_
    refine s_fieldAddr hE rfl fo57_1 rfl ?_; clear hE a; intro a hE
    refine g_yes hE rfl rfl ?_
    refine s_load1 hE rfl (hM.get 0 rfl) rfl one3 (by intro X h; cases h; simp) rfl ?_; clear hE a; intro a hE
    refine g_yes hE rfl rfl ?_
    refine s_bin hE rfl rfl (bin_add (q := ((q + 2 : Nat) : Int)) (by rw [wrap_i64 (by omega) (by omega)]; omega)) rfl ?_; clear hE a; intro a hE
    refine g_yes hE rfl rfl ?_
    refine s_move hE rfl rfl ?_; clear hE a; intro a hE
    refine g_yes hE rfl rfl ?_
    refine s_nilCheck hE rfl rfl ?_; clear hE a; intro a hE
    refine g_yes hE rfl rfl ?_
    refine s_fieldAddr hE rfl fo57_0 rfl ?_; clear hE a; intro a hE
    refine g_yes hE rfl rfl ?_
    refine s_load1 hE rfl (hM.get 0 rfl) rfl one23 (by intro X h; cases h; simp) rfl ?_; clear hE a; intro a hE
    refine g_yes hE rfl rfl ?_
    refine s_len hE rfl Try.underlying23 (rd_slice (hM.get 1 rfl)) rfl ?_; clear hE a; intro a hE
    refine g_yes hE rfl rfl ?_
    refine s_bin hE rfl rfl bin_gtr rfl ?_; clear hE a; intro a hE
    refine s_pickf hE rfl rfl rfl ?_; clear hE a; intro a hE
    refine q_nil ?_
    replace hE : Env a 93 [(0, _), (1, _), (4, _), (23, _)] := hE.sel [0, 1, 4, 23] rfl
    refine hK3 _ _ ?_
    refine hE.split 23 rfl (fun hb23 hE' => ?_) (fun hb23 hE' => ?_)
    · replace hE := hE'; clear hE'
      refine wp_cond_true (hE.eval rfl) ?_
      refine wp_seq_k (fun K4 hK4 => ?_)
      refine wp_plain [true, true, true, false] rfl rfl ?_
      refine s_move hE rfl rfl ?_; clear hE a; intro a hE
      refine s_nilCheck hE rfl rfl ?_; clear hE a; intro a hE
      refine s_fieldAddr hE rfl fo57_2 rfl ?_; clear hE a; intro a hE
      refine s_store1 2 hE rfl rfl hM rfl rfl sz4 rfl rfl (by intro X h; cases h) ?_; intro w2 hM'; clear hM; have hM := hM'; clear hM'
      refine q_nil ?_
      replace hE : Env a 93 [(0, _), (1, _), (4, _), (23, _)] := hE.sel [0, 1, 4, 23] rfl
      refine hK4 _ _ ?_
      refine wp_seq_k (fun K5 hK5 => ?_)
      refine wp_plain [true] rfl rfl ?_
      refine s_assign hE rfl rfl ?_; clear hE a; intro a hE
      refine q_nil ?_
      refine hK5 _ _ ?_
      refine wp_ret ?_
      refine q_then_r ?_
      refine f_ret1 hE rfl rfl ?_
      exact ⟨rfl, hM.pick [0] rfl⟩
    · replace hE := hE'; clear hE'
      have h2 : q + 2 ≤ B.length := by have := of_decide_eq_false hb23; omega
      have hv2 := val_two_lt (bs := B.drop q)
      refine wp_cond_false (hE.eval rfl) ?_
      refine wp_skip ?_
      refine hK2 _ _ ?_
      refine wp_seq_k (fun K4 hK4 => ?_)
      refine wp_drawnM hM (by kernel_rfl) (fun _ => False) [(0, true), (1, true), (2, true), (3, true), (4, true), (5, true), (6, true), (7, true), (8, true), (9, true), (10, true), (11, true), (12, true), (13, true), (14, false), (15, true), (16, true)] [(14, [(15, 14), (16, 14)])] (by kernel_rfl) rfl ?_
      intro w2 hM' hww2; clear hM; have hM := hM'; clear hM'
      refine s_move hE rfl rfl ?_; clear hE a; intro a hE
      refine s_nilCheck hE rfl rfl ?_; clear hE a; intro a hE
      refine s_fieldAddr hE rfl fo57_0 rfl ?_; clear hE a; intro a hE
      refine s_load1 hE rfl (hM.get 0 rfl) rfl one23 (by intro X h; cases h; simp) rfl ?_; clear hE a; intro a hE
      refine s_move hE rfl rfl ?_; clear hE a; intro a hE
      refine s_nilCheck hE rfl rfl ?_; clear hE a; intro a hE
      refine s_fieldAddr hE rfl fo57_1 rfl ?_; clear hE a; intro a hE
      refine s_load1 hE rfl (hM.get 0 rfl) rfl one3 (by intro X h; cases h; simp) rfl ?_; clear hE a; intro a hE
      refine s_move hE rfl rfl ?_; clear hE a; intro a hE
      refine s_nilCheck hE rfl rfl ?_; clear hE a; intro a hE
      refine s_fieldAddr hE rfl fo57_1 rfl ?_; clear hE a; intro a hE
      refine s_load1 hE rfl (hM.get 0 rfl) rfl one3 (by intro X h; cases h; simp) rfl ?_; clear hE a; intro a hE
      refine s_bin hE rfl rfl (bin_add (q := ((q + 2 : Nat) : Int)) (by rw [wrap_i64 (by omega) (by omega)]; omega)) rfl ?_; clear hE a; intro a hE
      refine s_slice (l := q) (h := q + 2) (mx' := c) hE rfl (hM.get 1 rfl) slt23 ⟨_, rfl⟩ ⟨_, rfl⟩ rfl (by simp) (by omega) (by omega) (by omega) (by omega) rfl ?_; clear hE a; intro a v40 hE hr40 hvb40
      replace hr40 := rd_mid (by omega) hr40
      replace hM := hM.addPart 1 rfl hr40 hvb40; clear hr40
      refine s_call hE rfl Try.call36 (refValue_c ((B.drop q).take (q + 2 - q)) _ _ _ (hM.get 0 rfl) (by simp; omega)) rfl ?_
      rintro e w3 ⟨rfl, hN⟩
      refine ⟨_, rfl, hN.sta0 _, ?_⟩; clear hE a; intro a hE
      replace hM : Mem _ _ w3 [_, _, _] := hM.call0 hN trivial; clear hN
      rw [show q + 2 - q = 2 by omega] at hE
      replace hM : Mem _ _ w3 [_, _] := hM.pick [1, 2] rfl
      obtain ⟨n, hn⟩ : ∃ n, n = val ((B.drop q).take 2) := ⟨_, rfl⟩
      rw [← hn] at hE
      refine s_conv hE rfl (cnv_int Try.underlying42 Try.underlying3 (wrap_i64 (by omega) (by omega))) rfl ?_; clear hE a; intro a hE
      refine s_assign hE rfl rfl ?_; clear hE a; intro a hE
      refine q_nil ?_
      replace hE : Env a 93 [(0, _), (1, _), (4, _), (5, _), (23, _)] := hE.sel [0, 1, 4, 5, 23] rfl
      refine hK4 _ _ ?_
      refine wp_seq_k (fun K5 hK5 => ?_)
      refine wp_seq_k (fun K6 hK6 => ?_)
      refine wp_drawnM hM (by kernel_rfl) (fun _ => False) [(0, true), (1, true), (2, true), (3, true), (4, true), (5, true), (6, true), (7, true), (8, true), (9, true), (10, true), (11, true), (12, true), (13, true), (14, true), (15, true), (16, true), (17, true)] [] (by kernel_rfl) rfl ?_
      intro w4 hM' hww4; clear hM; have hM := hM'; clear hM'
      refine s_move hE rfl rfl ?_; clear hE a; intro a hE
      refine s_move hE rfl rfl ?_; clear hE a; intro a hE
      refine s_bin hE rfl rfl bin_gtr rfl ?_; clear hE a; intro a hE
      refine s_move hE rfl rfl ?_; clear hE a; intro a hE
      refine hE.split 46 rfl (fun hb46 hE' => ?_) (fun hb46 hE' => ?_)
      · replace hE := hE'; clear hE'
        refine g_no (b := true) hE rfl rfl rfl ?_; clear hE a; intro a hE
        refine g_no (b := true) hE rfl rfl rfl ?_; clear hE a; intro a hE
        refine g_no (b := true) hE rfl rfl rfl ?_; clear hE a; intro a hE
        refine g_no (b := true) hE rfl rfl rfl ?_; clear hE a; intro a hE
        refine g_no (b := true) hE rfl rfl rfl ?_; clear hE a; intro a hE
        refine g_no (b := true) hE rfl rfl rfl ?_; clear hE a; intro a hE
        refine g_no (b := true) hE rfl rfl rfl ?_; clear hE a; intro a hE
        refine g_no (b := true) hE rfl rfl rfl ?_; clear hE a; intro a hE
        refine g_no (b := true) hE rfl rfl rfl ?_; clear hE a; intro a hE
        refine g_no (b := true) hE rfl rfl rfl ?_; clear hE a; intro a hE
        refine g_no (b := true) hE rfl rfl rfl ?_; clear hE a; intro a hE
        refine g_no (b := true) hE rfl rfl rfl ?_; clear hE a; intro a hE
        refine g_no (b := true) hE rfl rfl rfl ?_; clear hE a; intro a hE
        refine s_pickt hE rfl rfl rfl ?_; clear hE a; intro a hE
        refine q_nil ?_
        replace hE : Env a 93 [(0, _), (4, _), (5, _), (23, _), (60, _)] := hE.sel [0, 4, 5, 23, 60] rfl
        refine hK6 _ _ ?_
        refine wp_cond_true (hE.eval rfl) ?_
        refine wp_seq_k (fun K7 hK7 => ?_)
        refine wp_plain [true, true, true, false] rfl rfl ?_
        refine s_move hE rfl rfl ?_; clear hE a; intro a hE
        refine s_nilCheck hE rfl rfl ?_; clear hE a; intro a hE
        refine s_fieldAddr hE rfl fo57_2 rfl ?_; clear hE a; intro a hE
        refine s_store1 2 hE rfl rfl hM rfl rfl sz4 rfl rfl (by intro X h; cases h) ?_; intro w5 hM'; clear hM; have hM := hM'; clear hM'
        refine q_nil ?_
        replace hE : Env a 93 [(0, _), (4, _), (5, _), (23, _), (60, _)] := hE.sel [0, 4, 5, 23, 60] rfl
        refine hK7 _ _ ?_
        refine wp_seq_k (fun K8 hK8 => ?_)
        refine wp_plain [true] rfl rfl ?_
        refine s_assign hE rfl rfl ?_; clear hE a; intro a hE
        refine q_nil ?_
        refine hK8 _ _ ?_
        refine wp_ret ?_
        refine q_then_r ?_
        refine f_ret1 hE rfl rfl ?_
        exact ⟨rfl, hM.pick [0] rfl⟩
      · replace hE := hE'; clear hE'
        refine g_yes hE rfl rfl ?_
        refine s_move hE rfl rfl ?_; clear hE a; intro a hE
        refine g_yes hE rfl rfl ?_
        refine s_move hE rfl rfl ?_; clear hE a; intro a hE
        refine g_yes hE rfl rfl ?_
        refine s_nilCheck hE rfl rfl ?_; clear hE a; intro a hE
        refine g_yes hE rfl rfl ?_
        refine s_fieldAddr hE rfl fo57_0 rfl ?_; clear hE a; intro a hE
        refine g_yes hE rfl rfl ?_
        refine s_load1 hE rfl (hM.get 0 rfl) rfl one23 (by intro X h; cases h; simp) rfl ?_; clear hE a; intro a hE
        refine g_yes hE rfl rfl ?_
        refine s_len hE rfl Try.underlying23 (rd_slice (hM.get 1 rfl)) rfl ?_; clear hE a; intro a hE
        refine g_yes hE rfl rfl ?_
        refine s_move hE rfl rfl ?_; clear hE a; intro a hE
        refine g_yes hE rfl rfl ?_
        refine s_nilCheck hE rfl rfl ?_; clear hE a; intro a hE
        refine g_yes hE rfl rfl ?_
        refine s_fieldAddr hE rfl fo57_1 rfl ?_; clear hE a; intro a hE
        refine g_yes hE rfl rfl ?_
        refine s_load1 hE rfl (hM.get 0 rfl) rfl one3 (by intro X h; cases h; simp) rfl ?_; clear hE a; intro a hE
        refine g_yes hE rfl rfl ?_
        refine s_bin hE rfl rfl (bin_sub (wrap_i64 (by omega) (by omega))) rfl ?_; clear hE a; intro a hE
        refine g_yes hE rfl rfl ?_
        refine s_bin hE rfl rfl (bin_sub (wrap_i64 (by omega) (by omega))) rfl ?_; clear hE a; intro a hE
        refine g_yes hE rfl rfl ?_
        refine s_bin hE rfl rfl bin_gtr rfl ?_; clear hE a; intro a hE
        refine s_pickf hE rfl rfl rfl ?_; clear hE a; intro a hE
        refine q_nil ?_
        replace hE : Env a 93 [(0, _), (4, _), (5, _), (23, _), (60, _)] := hE.sel [0, 4, 5, 23, 60] rfl
        refine hK6 _ _ ?_
        refine hE.split 60 rfl (fun hb60 hE' => ?_) (fun hb60 hE' => ?_)
        · replace hE := hE'; clear hE'
          refine wp_cond_true (hE.eval rfl) ?_
          refine wp_seq_k (fun K7 hK7 => ?_)
          refine wp_plain [true, true, true, false] rfl rfl ?_
          refine s_move hE rfl rfl ?_; clear hE a; intro a hE
          refine s_nilCheck hE rfl rfl ?_; clear hE a; intro a hE
          refine s_fieldAddr hE rfl fo57_2 rfl ?_; clear hE a; intro a hE
          refine s_store1 2 hE rfl rfl hM rfl rfl sz4 rfl rfl (by intro X h; cases h) ?_; intro w5 hM'; clear hM; have hM := hM'; clear hM'
          refine q_nil ?_
          replace hE : Env a 93 [(0, _), (4, _), (5, _), (23, _), (60, _)] := hE.sel [0, 4, 5, 23, 60] rfl
          refine hK7 _ _ ?_
          refine wp_seq_k (fun K8 hK8 => ?_)
          refine wp_plain [true] rfl rfl ?_
          refine s_assign hE rfl rfl ?_; clear hE a; intro a hE
          refine q_nil ?_
          refine hK8 _ _ ?_
          refine wp_ret ?_
          refine q_then_r ?_
          refine f_ret1 hE rfl rfl ?_
          exact ⟨rfl, hM.pick [0] rfl⟩
        · replace hE := hE'; clear hE'
          exfalso; have h60 := of_decide_eq_false hb60; have h46 := of_decide_eq_false hb46; simp [textOk, hb11, ← hn] at h; omega
theorem refTEnd_c (b : Nat) (v : Value) (B : List UInt8) (c q : Nat) (t : Bool) (w : World) (hB : (blk b [[v], [.int .i64 (q : Nat)], [.bool t]] [1, 1, 1] 57).holds w) (hr : (rd v 1 B.length c (bv B)).holds w) (hq : q ≤ B.length) : Calls Try.prog 33 #[.pointer (some ⟨b, 0, none⟩)] w fun e w' => e = .returned (.bool (!t && decide ((B.drop q).length = 0))) ∧ Mem w [] w' [] := by
  have hM := Mem.startR2 (e := blkR b [[v], [.int .i64 (q : Nat)], [.bool t]] [1, 1, 1] 57) (f := rd v 1 B.length c (bv B)) hB hr rfl rfl
  refine f_enter 20 Try.func33 rfl rfl rfl ?_
  intro a hE
  replace hE : Env a 20 [(0, _)] := hE
  refine wp_seq_k (fun K1 hK1 => ?_)
  refine wp_plain [true] rfl rfl ?_
  refine s_assign hE rfl rfl ?_; clear hE a; intro a hE
  refine q_nil ?_
  refine hK1 _ _ ?_
  refine wp_seq_k (fun K2 hK2 => ?_)
  refine wp_drawnM hM (by kernel_rfl) (fun _ => False) [(0, true), (1, true), (2, true), (3, true), (4, true), (5, true), (6, true), (7, true), (8, true), (9, true), (10, true), (11, true), (12, true), (13, true), (14, true), (15, true), (16, true), (17, true)] [] (by kernel_rfl) rfl ?_
  intro w1 hM' hww1; clear hM; have hM := hM'; clear hM'
  refine s_move hE rfl rfl ?_; clear hE a; intro a hE
  refine s_nilCheck hE rfl rfl ?_; clear hE a; intro a hE
  refine s_fieldAddr hE rfl fo57_2 rfl ?_; clear hE a; intro a hE
  refine s_load1 hE rfl (blkR_blk (hM.get 0 rfl)) rfl one4 (by intro X h; cases h; simp) rfl ?_; clear hE a; intro a hE
  refine s_not hE rfl rfl ?_; clear hE a; intro a hE
  refine s_move hE rfl rfl ?_; clear hE a; intro a hE
  refine hE.split 8 rfl (fun hb8 hE' => ?_) (fun hb8 hE' => ?_)
  · replace hE := hE'; clear hE'
    refine g_yes hE rfl rfl ?_
    refine s_move hE rfl rfl ?_; clear hE a; intro a hE
    refine g_yes hE rfl rfl ?_
    refine s_nilCheck hE rfl rfl ?_; clear hE a; intro a hE
    refine g_yes hE rfl rfl ?_
    refine s_fieldAddr hE rfl fo57_1 rfl ?_; clear hE a; intro a hE
    refine g_yes hE rfl rfl ?_
    refine s_load1 hE rfl (blkR_blk (hM.get 0 rfl)) rfl one3 (by intro X h; cases h; simp) rfl ?_; clear hE a; intro a hE
    refine g_yes hE rfl rfl ?_
    refine s_move hE rfl rfl ?_; clear hE a; intro a hE
    refine g_yes hE rfl rfl ?_
    refine s_nilCheck hE rfl rfl ?_; clear hE a; intro a hE
    refine g_yes hE rfl rfl ?_
    refine s_fieldAddr hE rfl fo57_0 rfl ?_; clear hE a; intro a hE
    refine g_yes hE rfl rfl ?_
    refine s_load1 hE rfl (blkR_blk (hM.get 0 rfl)) rfl one23 (by intro X h; cases h; simp) rfl ?_; clear hE a; intro a hE
    refine g_yes hE rfl rfl ?_
    refine s_len hE rfl Try.underlying23 (rd_slice (hM.get 1 rfl)) rfl ?_; clear hE a; intro a hE
    refine g_yes hE rfl rfl ?_
    refine s_bin hE rfl rfl bin_eql rfl ?_; clear hE a; intro a hE
    refine s_pickt hE rfl rfl rfl ?_; clear hE a; intro a hE
    refine s_assign hE rfl rfl ?_; clear hE a; intro a hE
    refine q_nil ?_
    replace hE : Env a 20 [(2, _)] := hE.sel [2] rfl
    refine hK2 _ _ ?_
    refine wp_ret ?_
    refine f_ret1 hE rfl rfl ?_
    refine ⟨?_, hM.nil⟩
    simp at hb8
    first | (simp [hb8]; done) | (simp [hb8]; omega)
  · replace hE := hE'; clear hE'
    refine g_no (b := false) hE rfl rfl rfl ?_; clear hE a; intro a hE
    refine g_no (b := false) hE rfl rfl rfl ?_; clear hE a; intro a hE
    refine g_no (b := false) hE rfl rfl rfl ?_; clear hE a; intro a hE
    refine g_no (b := false) hE rfl rfl rfl ?_; clear hE a; intro a hE
    refine g_no (b := false) hE rfl rfl rfl ?_; clear hE a; intro a hE
    refine g_no (b := false) hE rfl rfl rfl ?_; clear hE a; intro a hE
    refine g_no (b := false) hE rfl rfl rfl ?_; clear hE a; intro a hE
    refine g_no (b := false) hE rfl rfl rfl ?_; clear hE a; intro a hE
    refine g_no (b := false) hE rfl rfl rfl ?_; clear hE a; intro a hE
    refine g_no (b := false) hE rfl rfl rfl ?_; clear hE a; intro a hE
    refine s_pickf hE rfl rfl rfl ?_; clear hE a; intro a hE
    refine s_assign hE rfl rfl ?_; clear hE a; intro a hE
    refine q_nil ?_
    replace hE : Env a 20 [(2, _)] := hE.sel [2] rfl
    refine hK2 _ _ ?_
    refine wp_ret ?_
    refine f_ret1 hE rfl rfl ?_
    refine ⟨?_, hM.nil⟩
    simp at hb8
    first | (simp [hb8]; done) | (simp [hb8]; omega)
theorem refTNum_c (b : Nat) (v : Value) (B : List UInt8) (c q : Nat) (t : Bool) (x : Int) (w : World) (hB : (blk b [[v], [.int .i64 (q : Nat)], [.bool t]] [1, 1, 1] 57).holds w) (hr : (rd v 1 B.length c (bv B)).holds w) (hne : b ∉ rdB v c) (hq : q ≤ B.length) (hlen : B.length ≤ 1000000) : Calls Try.prog 28 #[.pointer (some ⟨b, 0, none⟩), .int .i64 x] w fun e w' => ∃ q', e = .returned (.int .u64 (((tNum (B.drop q) t x).1 : Nat) : Int)) ∧ q' ≤ B.length ∧ (tNum (B.drop q) t x).2.1 = B.drop q' ∧ Mem w [b] w' [blk b [[v], [.int .i64 (q' : Nat)], [.bool (tNum (B.drop q) t x).2.2]] [1, 1, 1] 57] := by
  unfold tNum
  split
  · rename_i h
    simp only [numOk, Bool.and_eq_true, Bool.not_eq_true', decide_eq_true_eq] at h
    obtain ⟨h1, ⟨h2, h3⟩, h4⟩ := h
    subst h2
    obtain ⟨k, rfl⟩ := Int.eq_ofNat_of_zero_le h3
    have h5 : q + k ≤ B.length := by simp at h4; omega
    refine (refTNum_ok b v B c q k w hB hr hne hq hlen h1 h5).mono ?_
    rintro e w' ⟨rfl, hM⟩
    exact ⟨q + k, rfl, h5, by simp [List.drop_drop], hM⟩
  · rename_i h
    refine (refTNum_bad b v B c q t x w hB hr hne hq hlen (by simpa using h)).mono ?_
    rintro e w' ⟨rfl, hM⟩
    exact ⟨q, rfl, hq, rfl, hM⟩
theorem refTBytes_c (b : Nat) (v : Value) (B : List UInt8) (c q : Nat) (t : Bool) (x : Int) (w : World) (hB : (blk b [[v], [.int .i64 (q : Nat)], [.bool t]] [1, 1, 1] 57).holds w) (hr : (rd v 1 B.length c (bv B)).holds w) (hne : b ∉ rdB v c) (hq : q ≤ B.length) (hlen : B.length ≤ 1000000) : Calls Try.prog 29 #[.pointer (some ⟨b, 0, none⟩), .int .i64 x] w fun e w' => ∃ v', ∃ q', e = .returned (v') ∧ q' ≤ B.length ∧ (tBytes (B.drop q) t x).2.1 = B.drop q' ∧ Mem w [b] w' [own v' 1 (tBytes (B.drop q) t x).1.length (bv (tBytes (B.drop q) t x).1), blk b [[v], [.int .i64 (q' : Nat)], [.bool (tBytes (B.drop q) t x).2.2]] [1, 1, 1] 57] := by
  unfold tBytes
  split
  · rename_i h
    simp only [bytesOk, Bool.and_eq_true, Bool.not_eq_true', decide_eq_true_eq] at h
    obtain ⟨⟨h2, h3⟩, h4⟩ := h
    subst h2
    obtain ⟨k, rfl⟩ := Int.eq_ofNat_of_zero_le h3
    have h5 : q + k ≤ B.length := by simp at h4; omega
    refine (refTBytes_ok b v B c q k w hB hr hne hq hlen h5).mono ?_
    rintro e w' ⟨v', rfl, hM⟩
    exact ⟨v', q + k, rfl, h5, by simp [List.drop_drop], hM⟩
  · rename_i h
    refine (refTBytes_bad b v B c q t x w hB hr hne hq hlen (by simpa using h)).mono ?_
    rintro e w' ⟨rfl, hM⟩
    exact ⟨_, q, rfl, hq, rfl, hM.addNil 1⟩
theorem refTText_c (b : Nat) (v : Value) (B : List UInt8) (c q : Nat) (t : Bool) (x : Int) (w : World) (hB : (blk b [[v], [.int .i64 (q : Nat)], [.bool t]] [1, 1, 1] 57).holds w) (hr : (rd v 1 B.length c (bv B)).holds w) (hne : b ∉ rdB v c) (hq : q ≤ B.length) (hlen : B.length ≤ 1000000) : Calls Try.prog 31 #[.pointer (some ⟨b, 0, none⟩), .int .i64 x] w fun e w' => ∃ q', e = .returned (.string (str (tText (B.drop q) t x).1)) ∧ q' ≤ B.length ∧ (tText (B.drop q) t x).2.1 = B.drop q' ∧ Mem w [b] w' [blk b [[v], [.int .i64 (q' : Nat)], [.bool (tText (B.drop q) t x).2.2]] [1, 1, 1] 57] := by
  unfold tText
  split
  · rename_i h
    simp only [textOk, Bool.and_eq_true, Bool.not_eq_true', decide_eq_true_eq] at h
    obtain ⟨⟨⟨h1, h2⟩, h3⟩, h4⟩ := h
    subst h1
    have h5 : q + 2 + val ((B.drop q).take 2) ≤ B.length := by simp at h4 h2; omega
    refine (refTText_ok b v B c q x w hB hr hne hq hlen (by simp at h2; omega) h3 h5).mono ?_
    rintro e w' ⟨rfl, hM⟩
    refine ⟨q + 2 + val ((B.drop q).take 2), ?_, h5, by simp [List.drop_drop, Nat.add_assoc], hM⟩
    rw [List.drop_drop, Nat.add_sub_cancel_left]
  · rename_i h
    refine (refTText_bad b v B c q t x w hB hr hne hq hlen (by simpa using h)).mono ?_
    rintro e w' ⟨rfl, hM⟩
    exact ⟨q, rfl, hq, rfl, hM⟩
theorem bytesTakes_c (b0 : List UInt8) (v v1 : Value) (c0 c1 : Nat) (ls : List (Int × Int)) (w : World) (hr : (rd v 1 b0.length c0 (bv b0)).holds w) (hl : (rd v1 2 ls.length c1 (two ls)).holds w) (hll : ls.length ≤ 140737488355328) : Calls Try.prog 7 #[v, v1] w fun e w' => e = .returned (.bool true) ∧ Mem w [] w' [] := by
  have hM := Mem.startR2 hr hl rfl rfl
  refine f_enter 114 Try.func7 rfl rfl rfl ?_
  intro a hE
  replace hE : Env a 114 [(0, _), (1, _)] := hE
  refine wp_seq_k (fun K1 hK1 => ?_)
  refine wp_plain [true] rfl rfl ?_
  refine s_assign hE rfl rfl ?_; clear hE a; intro a hE
  refine q_nil ?_
  refine hK1 _ _ ?_
  refine wp_seq_k (fun K2 hK2 => ?_)
  refine wp_plain [true, false, true] rfl rfl ?_
  refine s_move hE rfl rfl ?_; clear hE a; intro a hE
  refine s_call hE rfl Try.call10 (cut_c b0 v c0 _ (hM.get 0 rfl)) rfl ?_
  rintro e w1 ⟨vB, cB, rfl, hvb, hrB, hN⟩
  refine ⟨_, rfl, trivial, ?_⟩; clear hE a; intro a hE
  replace hM : Mem _ _ w1 [_, _] := hM.call0 hN trivial; clear hN
  replace hM := hM.addPart 0 rfl hrB hvb; clear hrB hvb
  have hB : (b0.take 5000).length ≤ 5000 := by simp; omega
  generalize b0.take 5000 = B at hM hB
  refine s_assign hE rfl rfl ?_; clear hE a; intro a hE
  refine q_nil ?_
  replace hE : Env a 114 [(0, _), (1, _), (4, _)] := hE.sel [0, 1, 4] rfl
  refine hK2 _ _ ?_
  refine wp_seq_k (fun K3 hK3 => ?_)
  refine wp_plain [false, true, false, true] rfl rfl ?_
  refine s_buildSlice (xs := []) ([]) hE hM sl23 rfl rfl rfl (by intro v hv; cases hv) rfl rfl rfl rfl ?_; clear hE a; intro a v12 w2 hE hM'
  clear hM; have hM := hM'; clear hM'
  refine s_move hE rfl rfl ?_; clear hE a; intro a hE
  have hy := hM.get 1 rfl
  refine s_append hE rfl rfl hM sl23 (Src.rd Try.underlying23 hy (bv_one _)) (len47 (by omega)) (by omega) (by intro X h; cases h) rfl ?_; clear hE a hy; intro a v14 w3 hE hM'
  clear hM; have hM := hM'; clear hM'
  replace hM := hM.ownEq (m' := B.length) (cs' := bv B) (by simp) (by simp)
  refine s_assign hE rfl rfl ?_; clear hE a; intro a hE
  refine q_nil ?_
  replace hE : Env a 114 [(0, _), (1, _), (4, _), (5, _)] := hE.sel [0, 1, 4, 5] rfl
  refine hK3 _ _ ?_
  refine wp_seq_k (fun K4 hK4 => ?_)
  refine wp_plain [true, false, true] rfl rfl ?_
  refine s_move hE rfl rfl ?_; clear hE a; intro a hE
  obtain ⟨cso, hso⟩ := own_rd (hM.get 0 rfl)
  refine s_call hE rfl Try.call24 (open_c B _ _ _ hso (by omega)) rfl ?_
  rintro e w4 ⟨tb, bb, rfl, hbb, hN⟩
  refine ⟨_, rfl, trivial, ?_⟩; clear hE a; intro a hE
  replace hM : Mem _ _ w4 [_, _, _, _, _] := hM.callN hN (fun e he x hx => by rw [List.mem_singleton.1 he] at hx; exact hbb x hx); clear hN
  refine s_assign hE rfl rfl ?_; clear hE a; intro a hE
  refine q_nil ?_
  replace hE : Env a 114 [(0, _), (1, _), (4, _), (5, _), (6, _)] := hE.sel [0, 1, 4, 5, 6] rfl
  refine hK4 _ _ ?_
  refine wp_seq_k (fun K5 hK5 => ?_)
  refine wp_plain [true, true, false, true] rfl rfl ?_
  refine s_move hE rfl rfl ?_; clear hE a; intro a hE
  have hvB := rd_one (hM.get 2 rfl)
  refine s_buildS [[vB]] hE rfl zero57 rfl fpl57 ⟨hvB.1, rfl, trivial⟩ rfl ?_; clear hE a; intro a hE
  refine s_box (ss := [[vB], [.int .i64 (0 : Nat)], [.bool false]]) [1, 1, 1] hE hM rfl rfl rfl rfl ?_; clear hE a; intro a rb w5 hE hM'
  clear hM; have hM := hM'; clear hM'
  refine s_assign hE rfl rfl ?_; clear hE a; intro a hE
  refine q_nil ?_
  replace hE : Env a 114 [(0, _), (1, _), (4, _), (5, _), (6, _), (7, _)] := hE.sel [0, 1, 4, 5, 6, 7] rfl
  refine hK5 _ _ ?_
  refine wp_seq_k (fun K6 hK6 => ?_)
  refine wp_seq_k (fun K7 hK7 => ?_)
  refine wp_plain [true] rfl rfl ?_
  refine s_assign hE rfl rfl ?_; clear hE a; intro a hE
  refine q_nil ?_
  refine hK7 _ _ ?_
  refine wp_block ?_
  replace hM : Mem _ _ w5 [_, _, _, _, _, _] := hM.pick [2, 1, 0, 3, 5, 4] rfl
  refine c_loop (fun (i : Nat) a w' => i ≤ B.length ∧ ∃ cs : List UInt8, cs.length = B.length ∧ Env a 114 [(1, v1), (5, v14), (6, .pointer (some ⟨tb, 0, none⟩)), (7, .pointer (some ⟨rb, 0, none⟩)), (8, .int .i64 i)] ∧ Mem w [] w' [own v14 1 B.length (bv cs), tap tb bb B false 66, blk rb [[vB], [.int .i64 (0 : Nat)], [.bool false]] [1, 1, 1] 57, rd vB 1 B.length cB (bv B), rd v1 2 ls.length c1 (two ls)]) (fun i => B.length - i) 0 ⟨Nat.zero_le _, _, rfl, hE.sel [1, 5, 6, 7, 8] rfl, hM.pick [0, 1, 2, 3, 4] rfl⟩ ?_
  clear hE hM a; rintro i a w9 ⟨hi, cs, hcs, hE, hM⟩
  refine wp_seq_k (fun K8 hK8 => ?_)
  refine wp_seq_k (fun K9 hK9 => ?_)
  refine wp_plain [true, true, true, true] rfl rfl ?_
  refine s_move hE rfl rfl ?_; clear hE a; intro a hE
  refine s_move hE rfl rfl ?_; clear hE a; intro a hE
  refine s_len hE rfl Try.underlying23 (own_slice (hM.get 0 rfl)) rfl ?_; clear hE a; intro a hE
  refine s_bin hE rfl rfl bin_lss rfl ?_; clear hE a; intro a hE
  refine q_nil ?_
  replace hE : Env a 114 [(1, _), (5, _), (6, _), (7, _), (8, _), (23, _)] := hE.sel [1, 5, 6, 7, 8, 23] rfl
  refine hK9 _ _ ?_
  refine hE.split 23 rfl (fun hb23 hE' => ?_) (fun hb23 hE' => ?_)
  · replace hE := hE'; clear hE'
    replace hb23 := of_decide_eq_true hb23
    refine wp_cond_true (hE.eval rfl) ?_
    refine wp_skip ?_
    refine hK8 _ _ ?_
    refine wp_seq_k (fun K10 hK10 => ?_)
    refine wp_block ?_
    refine wp_plain [true, true, true, true, true, true, false] rfl rfl ?_
    refine s_move hE rfl rfl ?_; clear hE a; intro a hE
    refine s_move hE rfl rfl ?_; clear hE a; intro a hE
    refine s_indexOwn (j := i) hE rfl (hM.get 0 rfl) rfl slt23 (by first | rfl | omega) (by first | omega | decide) rfl ?_; clear hE a; intro a hE hc28
    rw [bv_elem (by omega)] at hc28
    refine s_loadAt1 hE rfl hc28 one5 (by intro X h; cases h) rfl ?_; clear hE a; intro a hE
    refine s_bin hE rfl rfl bin_inc_u8 rfl ?_; clear hE a; intro a hE
    refine s_indexOwn (j := i) hE rfl (hM.get 0 rfl) rfl slt23 (by first | rfl | omega) (by first | omega | decide) rfl ?_; clear hE a; intro a hE hc31
    refine s_storeOwn (vs := [bV _]) hE rfl rfl hM rfl sz5 rfl (by intro u hu; rw [List.mem_singleton.1 hu]; rfl) (by simp; omega) (by omega) (by intro X h; cases h) ?_; intro w10 hM'; clear hM; have hM := hM'; clear hM'
    refine q_nil ?_
    replace hE : Env a 114 [(1, _), (5, _), (6, _), (7, _), (8, _), (23, _)] := hE.sel [1, 5, 6, 7, 8, 23] rfl
    refine q_block_n ?_
    refine hK10 _ _ ?_
    refine wp_plain [true, true, true] rfl rfl ?_
    refine s_move hE rfl rfl ?_; clear hE a; intro a hE
    refine s_bin hE rfl rfl (bin_add (wrap_i64 (by omega) (by omega))) rfl ?_; clear hE a; intro a hE
    refine s_assign hE rfl rfl ?_; clear hE a; intro a hE
    refine q_nil ?_
    replace hE : Env a 114 [(1, _), (5, _), (6, _), (7, _), (8, _), (23, _)] := hE.sel [1, 5, 6, 7, 8, 23] rfl
    replace hE := hE.cast 8 rfl (show _ = Value.int .i64 ((i + 1 : Nat) : Int) from congrArg _ (by omega))
    exact ⟨i + 1, ⟨by omega, cs.set i (cs.getD i 0 + 1), by simpa using hcs, hE.sel [1, 5, 6, 7, 8] rfl, by rw [bv_set (by omega)] at hM; exact hM⟩, by omega⟩
  · replace hE := hE'; clear hE'
    replace hb23 := of_decide_eq_false hb23
    have hi0 : i = B.length := by omega
    clear hi0
    refine wp_cond_false (hE.eval rfl) ?_
    refine wp_exit ?_
    refine q_then_e ?_
    refine q_then_e ?_
    refine q_block_x ?_
    refine hK6 _ _ ?_
    refine wp_seq_k (fun K10 hK10 => ?_)
    refine wp_seq_k (fun K11 hK11 => ?_)
    refine wp_plain [true] rfl rfl ?_
    refine s_assign hE rfl rfl ?_; clear hE a; intro a hE
    refine q_nil ?_
    refine hK11 _ _ ?_
    refine wp_block ?_
    clear hi hcs
    replace hM : Mem _ _ w9 [_, _, _, _, _] := hM.pick [1, 2, 3, 4, 0] rfl
    refine c_loop (fun (i : Nat) a w' => i ≤ ls.length ∧ ∃ (q : Nat) (t : Bool), q ≤ B.length ∧ Env a 114 [(1, v1), (6, .pointer (some ⟨tb, 0, none⟩)), (7, .pointer (some ⟨rb, 0, none⟩)), (9, .int .i64 i)] ∧ Mem w [] w' [tap tb bb (B.drop q) t 66, blk rb [[vB], [.int .i64 (q : Nat)], [.bool t]] [1, 1, 1] 57, rd vB 1 B.length cB (bv B), rd v1 2 ls.length c1 (two ls)]) (fun i => ls.length - i) 0 ⟨Nat.zero_le _, 0, false, by omega, hE.sel [1, 6, 7, 9] rfl, hM.pick [0, 1, 2, 3] rfl⟩ ?_
    clear hE hM a; rintro i a w10 ⟨hi, q, t, hq, hE, hM⟩
    refine wp_seq_k (fun K12 hK12 => ?_)
    refine wp_seq_k (fun K13 hK13 => ?_)
    refine wp_plain [true, true, true, true, true, true, true, true] rfl rfl ?_
    refine s_move hE rfl rfl ?_; clear hE a; intro a hE
    refine s_move hE rfl rfl ?_; clear hE a; intro a hE
    refine s_len hE rfl Try.underlying54 (rd_slice (hM.get 3 rfl)) rfl ?_; clear hE a; intro a hE
    refine s_bin hE rfl rfl bin_lss rfl ?_; clear hE a; intro a hE
    refine s_move hE rfl rfl ?_; clear hE a; intro a hE
    refine hE.split 36 rfl (fun hb36 hE' => ?_) (fun hb36 hE' => ?_)
    · replace hE := hE'; clear hE'
      replace hb36 := of_decide_eq_true hb36
      refine g_yes hE rfl rfl ?_
      refine s_move hE rfl rfl ?_; clear hE a; intro a hE
      refine g_yes hE rfl rfl ?_
      refine s_bin hE rfl rfl bin_lss rfl ?_; clear hE a; intro a hE
      refine s_pickt hE rfl rfl rfl ?_; clear hE a; intro a hE
      refine q_nil ?_
      replace hE : Env a 114 [(1, _), (6, _), (7, _), (9, _), (39, _)] := hE.sel [1, 6, 7, 9, 39] rfl
      refine hK13 _ _ ?_
      refine hE.split 39 rfl (fun hb39 hE' => ?_) (fun hb39 hE' => ?_)
      · replace hE := hE'; clear hE'
        replace hb39 := of_decide_eq_true hb39
        refine wp_cond_true (hE.eval rfl) ?_
        refine wp_skip ?_
        refine hK12 _ _ ?_
        refine wp_seq_k (fun K14 hK14 => ?_)
        refine wp_block ?_
        refine wp_seq_k (fun K15 hK15 => ?_)
        refine wp_seq_k (fun K16 hK16 => ?_)
        refine wp_plain [true, true, true, true, true, true] rfl rfl ?_
        refine s_move hE rfl rfl ?_; clear hE a; intro a hE
        refine s_move hE rfl rfl ?_; clear hE a; intro a hE
        refine s_indexRd (j := i) hE rfl (hM.get 3 rfl) rfl slt54 (by first | rfl | omega) (by first | omega | decide) rfl ?_; clear hE a; intro a p44 hE hc44 hp44
        rw [two_elem (by omega)] at hc44
        refine s_fieldAt hE rfl hc44 fo59_0 rfl ?_; clear hE a; intro a p45 hE hc45 hp45
        refine s_loadAt1 hE rfl hc45 one3 (by intro X h; cases h) rfl ?_; clear hE a; intro a hE
        refine s_bin hE rfl rfl (bin_rem (by decide) rfl) rfl ?_; clear hE a; intro a hE
        refine q_nil ?_
        replace hE : Env a 114 [(1, _), (6, _), (7, _), (9, _), (39, _), (47, _)] := hE.sel [1, 6, 7, 9, 39, 47] rfl
        refine hK16 _ _ ?_
        refine wp_block ?_
        refine wp_seq_k (fun K17 hK17 => ?_)
        refine wp_plain [true, true] rfl rfl ?_
        refine s_bin hE rfl rfl bin_eql rfl ?_; clear hE a; intro a hE
        refine s_assign hE rfl rfl ?_; clear hE a; intro a hE
        refine q_nil ?_
        replace hE : Env a 114 [(1, _), (6, _), (7, _), (9, _), (39, _), (47, _), (63, _)] := hE.sel [1, 6, 7, 9, 39, 47, 63] rfl
        refine hK17 _ _ ?_
        refine hE.split 63 rfl (fun hb63 hE' => ?_) (fun hb63 hE' => ?_)
        · replace hE := hE'; clear hE'
          refine wp_cond_true (hE.eval rfl) ?_
          refine wp_seq_k (fun K18 hK18 => ?_)
          refine wp_drawnM hM (by kernel_rfl) (fun b => b = tb ∨ b = rb) [(0, true), (1, true), (2, true), (3, true), (4, true), (5, true), (7, true), (8, true), (9, true), (10, true), (11, true), (12, true), (6, false), (13, false), (14, true)] [(6, [(13, 6), (14, 6)]), (13, [(14, 13)])] (by kernel_rfl) rfl ?_
          intro w11 hM' hww11; clear hM; have hM := hM'; clear hM'
          refine s_move hE rfl rfl ?_; clear hE a; intro a hE
          refine s_move hE rfl rfl ?_; clear hE a; intro a hE
          refine s_move hE rfl rfl ?_; clear hE a; intro a hE
          refine s_indexRd (j := i) hE rfl (hM.get 3 rfl) rfl slt54 (by first | rfl | omega) (by first | omega | decide) rfl ?_; clear hE a; intro a p68 hE hc68 hp68
          rw [two_elem (by omega)] at hc68
          refine s_fieldAt hE rfl hc68 fo59_1 rfl ?_; clear hE a; intro a p69 hE hc69 hp69
          refine s_loadAt1 hE rfl hc69 one3 (by intro X h; cases h; intro b hb hx; rcases hx with rfl | rfl; exact hM.notX 0 3 rfl rfl (by decide) _ (List.mem_singleton.2 rfl) (hp68 _ (hp69 _ hb)); exact hM.notX 1 3 rfl rfl (by decide) _ (List.mem_singleton.2 rfl) (hp68 _ (hp69 _ hb))) rfl ?_; clear hE a; intro a hE
          refine s_move hE rfl rfl ?_; clear hE a; intro a hE
          refine s_move hE rfl rfl ?_; clear hE a; intro a hE
          refine s_move hE rfl rfl ?_; clear hE a; intro a hE
          refine s_indexRd (j := i) hE rfl (hM.get 3 rfl) rfl slt54 (by first | rfl | omega) (by first | omega | decide) rfl ?_; clear hE a; intro a p75 hE hc75 hp75
          rw [two_elem (by omega)] at hc75
          refine s_fieldAt hE rfl hc75 fo59_1 rfl ?_; clear hE a; intro a p76 hE hc76 hp76
          refine s_loadAt1 hE rfl hc76 one3 (by intro X h; cases h; intro b hb hx; rcases hx with rfl | rfl; exact hM.notX 0 3 rfl rfl (by decide) _ (List.mem_singleton.2 rfl) (hp75 _ (hp76 _ hb)); exact hM.notX 1 3 rfl rfl (by decide) _ (List.mem_singleton.2 rfl) (hp75 _ (hp76 _ hb))) rfl ?_; clear hE a; intro a hE
          refine s_call hE rfl Try.call27 (tapNum_c tb bb _ _ _ _ (hM.get 0 rfl)) rfl ?_
          rintro e w12 ⟨rfl, hN⟩
          refine ⟨_, rfl, (hN.sta.mono (fun b hb => .inl (List.mem_singleton.1 hb))), ?_⟩; clear hE a; intro a hE
          replace hM : Mem _ _ w12 [_, _, _, _] := hM.call1 hN (fun f hf x hx => by rw [List.mem_singleton.1 hf] at hx; exact .inl hx); clear hN
          replace hM : Mem _ _ w12 [_, _, _, _] := hM.pick [1, 0, 2, 3] rfl
          refine s_call hE rfl Try.call28 (refTNum_c rb vB B cB q t _ _ (hM.get 0 rfl) (hM.get 2 rfl) (hM.notX 0 2 rfl rfl (by decide) _ (List.mem_singleton.2 rfl)) hq (by omega)) rfl ?_
          rintro e w13 ⟨q1, rfl, hq1, hd1, hN⟩
          refine ⟨_, rfl, (hN.sta.mono (fun b hb => .inr (List.mem_singleton.1 hb))), ?_⟩; clear hE a; intro a hE
          replace hM : Mem _ _ w13 [_, _, _, _] := hM.call1' hN ⟨rfl, trivial⟩; clear hN
          rw [hd1] at hM
          generalize (tNum (B.drop q) t (ls.getD i (0, 0)).2).2.2 = t1 at hM
          refine s_bin hE rfl rfl bin_neq rfl ?_; clear hE a; intro a hE
          refine q_nil ?_
          replace hE : Env a 114 [(1, _), (6, _), (7, _), (9, _), (39, _), (47, _), (63, _), (79, _)] := hE.sel [1, 6, 7, 9, 39, 47, 63, 79] rfl
          refine hK18 _ _ ?_
          replace hE := hE.cast 79 rfl (show _ = Value.bool false from (congrArg Value.bool (by simp)))
          refine wp_cond_false (hE.eval rfl) ?_
          refine wp_skip ?_
          refine q_block_n ?_
          refine hK15 _ _ ?_
          refine wp_seq_k (fun K19 hK19 => ?_)
          refine wp_drawnM hM (by kernel_rfl) (fun _ => False) [(0, true), (2, true), (3, true), (4, true), (5, true), (1, false), (6, true), (7, true), (8, true), (10, true), (9, false), (11, false), (12, true), (13, true)] [(1, [(6, 1), (7, 1), (8, 7), (10, 7), (9, 8), (11, 9), (12, 9), (13, 12)]), (9, [(11, 9), (12, 9), (13, 12)]), (11, [(12, 11), (13, 12)])] (by kernel_rfl) rfl ?_
          intro w14 hM' hww14; clear hM; have hM := hM'; clear hM'
          refine s_move hE rfl rfl ?_; clear hE a; intro a hE
          refine s_move hE rfl rfl ?_; clear hE a; intro a hE
          refine s_nilCheck hE rfl rfl ?_; clear hE a; intro a hE
          refine s_fieldAddr hE rfl fo57_2 rfl ?_; clear hE a; intro a hE
          refine s_load1 hE rfl (hM.get 0 rfl) rfl one4 (by intro X h; cases h; simp) rfl ?_; clear hE a; intro a hE
          refine s_call hE rfl Try.call32 (tapTorn_c tb bb _ _ _ (hM.get 1 rfl)) rfl ?_
          rintro e w15 ⟨rfl, hN⟩
          refine ⟨_, rfl, hN.sta0 _, ?_⟩; clear hE a; intro a hE
          replace hM : Mem _ _ w15 [_, _, _, _] := hM.call0 hN trivial; clear hN
          refine s_bin hE rfl rfl (bins_bool Try.underlying4).2 rfl ?_; clear hE a; intro a hE
          refine s_move hE rfl rfl ?_; clear hE a; intro a hE
          replace hE := hE.cast 106 rfl (show _ = Value.bool false from (congrArg Value.bool (by simp)))
          refine g_yes hE rfl rfl ?_
          refine s_move hE rfl rfl ?_; clear hE a; intro a hE
          refine g_yes hE rfl rfl ?_
          refine s_move hE rfl rfl ?_; clear hE a; intro a hE
          refine g_yes hE rfl rfl ?_
          refine s_call hE rfl Try.call26 (tapEnd_c tb bb _ _ _ (hM.get 1 rfl)) rfl ?_
          rintro e w16 ⟨rfl, hN⟩
          refine ⟨_, rfl, hN.sta0 _, ?_⟩; clear hE a; intro a hE
          replace hM : Mem _ _ w16 [_, _, _, _] := hM.call0 hN trivial; clear hN
          refine g_yes hE rfl rfl ?_
          refine s_call hE rfl Try.call33 (refTEnd_c rb vB B cB q1 t1 _ (hM.get 0 rfl) (hM.get 2 rfl) hq1) rfl ?_
          rintro e w17 ⟨rfl, hN⟩
          refine ⟨_, rfl, hN.sta0 _, ?_⟩; clear hE a; intro a hE
          replace hM : Mem _ _ w17 [_, _, _, _] := hM.call0 hN trivial; clear hN
          refine g_yes hE rfl rfl ?_
          refine s_bin hE rfl rfl (bins_bool Try.underlying4).2 rfl ?_; clear hE a; intro a hE
          refine s_pickf hE rfl rfl rfl ?_; clear hE a; intro a hE
          refine q_nil ?_
          replace hE : Env a 114 [(1, _), (6, _), (7, _), (9, _), (39, _), (47, _), (63, _), (79, _), (112, _)] := hE.sel [1, 6, 7, 9, 39, 47, 63, 79, 112] rfl
          refine hK19 _ _ ?_
          replace hE := hE.cast 112 rfl (show _ = Value.bool false from (congrArg Value.bool (by simp)))
          refine wp_cond_false (hE.eval rfl) ?_
          refine wp_skip ?_
          refine q_block_n ?_
          refine hK14 _ _ ?_
          refine wp_plain [true, true, true] rfl rfl ?_
          refine s_move hE rfl rfl ?_; clear hE a; intro a hE
          refine s_bin hE rfl rfl (bin_add (wrap_i64 (by omega) (by omega))) rfl ?_; clear hE a; intro a hE
          refine s_assign hE rfl rfl ?_; clear hE a; intro a hE
          refine q_nil ?_
          replace hE : Env a 114 [(1, _), (6, _), (7, _), (9, _), (39, _), (47, _), (63, _), (79, _), (112, _)] := hE.sel [1, 6, 7, 9, 39, 47, 63, 79, 112] rfl
          replace hE := hE.cast 9 rfl (show _ = Value.int .i64 ((i + 1 : Nat) : Int) from congrArg _ (by omega))
          replace hM : Mem _ _ w17 [_, _, _, _] := hM.pick [1, 0, 2, 3] rfl
          exact ⟨i + 1, ⟨by omega, q1, t1, hq1, hE.sel [1, 6, 7, 9] rfl, hM.pick [0, 1, 2, 3] rfl⟩, by omega⟩
        · replace hE := hE'; clear hE'
          refine wp_cond_false (hE.eval rfl) ?_
          refine wp_seq_k (fun K18 hK18 => ?_)
          refine wp_plain [true, true] rfl rfl ?_
          refine s_bin hE rfl rfl bin_eql rfl ?_; clear hE a; intro a hE
          refine s_assign hE rfl rfl ?_; clear hE a; intro a hE
          refine q_nil ?_
          replace hE : Env a 114 [(1, _), (6, _), (7, _), (9, _), (39, _), (47, _), (63, _), (80, _)] := hE.sel [1, 6, 7, 9, 39, 47, 63, 80] rfl
          refine hK18 _ _ ?_
          refine hE.split 80 rfl (fun hb80 hE' => ?_) (fun hb80 hE' => ?_)
          · replace hE := hE'; clear hE'
            refine wp_cond_true (hE.eval rfl) ?_
            refine wp_seq_k (fun K19 hK19 => ?_)
            refine wp_drawnM hM (by kernel_rfl) (fun b => b = tb ∨ b = rb) [(0, true), (1, true), (2, true), (3, true), (4, true), (5, true), (8, true), (9, true), (10, true), (11, true), (12, true), (13, true), (6, false), (7, true), (14, false), (15, true), (16, true)] [(6, [(7, 6), (14, 6), (15, 14), (16, 15)]), (14, [(15, 14), (16, 15)])] (by kernel_rfl) rfl ?_
            intro w11 hM' hww11; clear hM; have hM := hM'; clear hM'
            refine s_move hE rfl rfl ?_; clear hE a; intro a hE
            refine s_move hE rfl rfl ?_; clear hE a; intro a hE
            refine s_move hE rfl rfl ?_; clear hE a; intro a hE
            refine s_indexRd (j := i) hE rfl (hM.get 3 rfl) rfl slt54 (by first | rfl | omega) (by first | omega | decide) rfl ?_; clear hE a; intro a p85 hE hc85 hp85
            rw [two_elem (by omega)] at hc85
            refine s_fieldAt hE rfl hc85 fo59_1 rfl ?_; clear hE a; intro a p86 hE hc86 hp86
            refine s_loadAt1 hE rfl hc86 one3 (by intro X h; cases h; intro b hb hx; rcases hx with rfl | rfl; exact hM.notX 0 3 rfl rfl (by decide) _ (List.mem_singleton.2 rfl) (hp85 _ (hp86 _ hb)); exact hM.notX 1 3 rfl rfl (by decide) _ (List.mem_singleton.2 rfl) (hp85 _ (hp86 _ hb))) rfl ?_; clear hE a; intro a hE
            refine s_move hE rfl rfl ?_; clear hE a; intro a hE
            refine s_move hE rfl rfl ?_; clear hE a; intro a hE
            refine s_move hE rfl rfl ?_; clear hE a; intro a hE
            refine s_indexRd (j := i) hE rfl (hM.get 3 rfl) rfl slt54 (by first | rfl | omega) (by first | omega | decide) rfl ?_; clear hE a; intro a p93 hE hc93 hp93
            rw [two_elem (by omega)] at hc93
            refine s_fieldAt hE rfl hc93 fo59_1 rfl ?_; clear hE a; intro a p94 hE hc94 hp94
            refine s_loadAt1 hE rfl hc94 one3 (by intro X h; cases h; intro b hb hx; rcases hx with rfl | rfl; exact hM.notX 0 3 rfl rfl (by decide) _ (List.mem_singleton.2 rfl) (hp93 _ (hp94 _ hb)); exact hM.notX 1 3 rfl rfl (by decide) _ (List.mem_singleton.2 rfl) (hp93 _ (hp94 _ hb))) rfl ?_; clear hE a; intro a hE
            refine s_call hE rfl Try.call25 (tapBytes_c tb bb _ _ _ _ (hM.get 0 rfl)) rfl ?_
            rintro e w12 ⟨vpt, cpt, rfl, hvpt, hN⟩
            refine ⟨_, rfl, (hN.sta.mono (fun b hb => .inl (List.mem_singleton.1 hb))), ?_⟩; clear hE a; intro a hE
            replace hM : Mem _ _ w12 [_, _, _, _, _] := hM.call1 hN (fun f hf x hx => (List.mem_cons.1 hf).elim (fun h => by subst h; exact .inl (hvpt x hx)) (fun h => by rw [List.mem_singleton.1 h] at hx; exact .inl hx)); clear hN
            refine s_toStr hE rfl Try.underlying23 Try.underlying5 Try.underlying9 (hM.get 0 rfl) (by intro X h; cases h; intro b hb hx; rcases hx with rfl | rfl; exact hM.notX 1 0 rfl rfl (by decide) _ (List.mem_singleton.2 rfl) hb; exact hM.notX 2 0 rfl rfl (by decide) _ (List.mem_singleton.2 rfl) hb) rfl ?_; clear hE a; intro a hE
            replace hM : Mem _ _ w12 [_, _, _, _, _] := hM.pick [2, 0, 1, 3, 4] rfl
            refine s_call hE rfl Try.call29 (refTBytes_c rb vB B cB q t _ _ (hM.get 0 rfl) (hM.get 3 rfl) (hM.notX 0 3 rfl rfl (by decide) _ (List.mem_singleton.2 rfl)) hq (by omega)) rfl ?_
            rintro e w13 ⟨vro, q1, rfl, hq1, hd1, hN⟩
            refine ⟨_, rfl, (hN.sta.mono (fun b hb => .inr (List.mem_singleton.1 hb))), ?_⟩; clear hE a; intro a hE
            replace hM : Mem _ _ w13 [_, _, _, _, _, _] := hM.call1' hN ⟨rfl, rfl, trivial⟩; clear hN
            rw [hd1] at hM
            generalize (tBytes (B.drop q) t (ls.getD i (0, 0)).2).2.2 = t1 at hM
            obtain ⟨cs97, hs97⟩ := own_rd (hM.get 0 rfl)
            refine s_toStr hE rfl Try.underlying23 Try.underlying5 Try.underlying9 hs97 (by intro X h; cases h; intro b hb hx; rcases hx with rfl | rfl; exact ((apart_of_get hM.apart (i := 3) (j := 0) rfl rfl (by decide)).1 _ (List.mem_singleton.2 rfl)).1 (rdB_sub hb); exact ((apart_of_get hM.apart (i := 1) (j := 0) rfl rfl (by decide)).1 _ (List.mem_singleton.2 rfl)).1 (rdB_sub hb)) rfl ?_; clear hE a; intro a hE
            refine s_bin hE rfl rfl bins_str.2 rfl ?_; clear hE a; intro a hE
            refine q_nil ?_
            replace hE : Env a 114 [(1, _), (6, _), (7, _), (9, _), (39, _), (47, _), (63, _), (80, _), (98, _)] := hE.sel [1, 6, 7, 9, 39, 47, 63, 80, 98] rfl
            refine hK19 _ _ ?_
            replace hE := hE.cast 98 rfl (show _ = Value.bool false from (congrArg Value.bool (by simp)))
            refine wp_cond_false (hE.eval rfl) ?_
            refine wp_skip ?_
            refine q_block_n ?_
            refine hK15 _ _ ?_
            refine wp_seq_k (fun K20 hK20 => ?_)
            refine wp_drawnM hM (by kernel_rfl) (fun _ => False) [(0, true), (2, true), (3, true), (4, true), (5, true), (1, false), (6, true), (7, true), (8, true), (10, true), (9, false), (11, false), (12, true), (13, true)] [(1, [(6, 1), (7, 1), (8, 7), (10, 7), (9, 8), (11, 9), (12, 9), (13, 12)]), (9, [(11, 9), (12, 9), (13, 12)]), (11, [(12, 11), (13, 12)])] (by kernel_rfl) rfl ?_
            intro w14 hM' hww14; clear hM; have hM := hM'; clear hM'
            refine s_move hE rfl rfl ?_; clear hE a; intro a hE
            refine s_move hE rfl rfl ?_; clear hE a; intro a hE
            refine s_nilCheck hE rfl rfl ?_; clear hE a; intro a hE
            refine s_fieldAddr hE rfl fo57_2 rfl ?_; clear hE a; intro a hE
            refine s_load1 hE rfl (hM.get 1 rfl) rfl one4 (by intro X h; cases h; simp) rfl ?_; clear hE a; intro a hE
            refine s_call hE rfl Try.call32 (tapTorn_c tb bb _ _ _ (hM.get 3 rfl)) rfl ?_
            rintro e w15 ⟨rfl, hN⟩
            refine ⟨_, rfl, hN.sta0 _, ?_⟩; clear hE a; intro a hE
            replace hM : Mem _ _ w15 [_, _, _, _, _, _] := hM.call0 hN trivial; clear hN
            refine s_bin hE rfl rfl (bins_bool Try.underlying4).2 rfl ?_; clear hE a; intro a hE
            refine s_move hE rfl rfl ?_; clear hE a; intro a hE
            replace hE := hE.cast 106 rfl (show _ = Value.bool false from (congrArg Value.bool (by simp)))
            refine g_yes hE rfl rfl ?_
            refine s_move hE rfl rfl ?_; clear hE a; intro a hE
            refine g_yes hE rfl rfl ?_
            refine s_move hE rfl rfl ?_; clear hE a; intro a hE
            refine g_yes hE rfl rfl ?_
            refine s_call hE rfl Try.call26 (tapEnd_c tb bb _ _ _ (hM.get 3 rfl)) rfl ?_
            rintro e w16 ⟨rfl, hN⟩
            refine ⟨_, rfl, hN.sta0 _, ?_⟩; clear hE a; intro a hE
            replace hM : Mem _ _ w16 [_, _, _, _, _, _] := hM.call0 hN trivial; clear hN
            refine g_yes hE rfl rfl ?_
            refine s_call hE rfl Try.call33 (refTEnd_c rb vB B cB q1 t1 _ (hM.get 1 rfl) (hM.get 4 rfl) hq1) rfl ?_
            rintro e w17 ⟨rfl, hN⟩
            refine ⟨_, rfl, hN.sta0 _, ?_⟩; clear hE a; intro a hE
            replace hM : Mem _ _ w17 [_, _, _, _, _, _] := hM.call0 hN trivial; clear hN
            refine g_yes hE rfl rfl ?_
            refine s_bin hE rfl rfl (bins_bool Try.underlying4).2 rfl ?_; clear hE a; intro a hE
            refine s_pickf hE rfl rfl rfl ?_; clear hE a; intro a hE
            refine q_nil ?_
            replace hE : Env a 114 [(1, _), (6, _), (7, _), (9, _), (39, _), (47, _), (63, _), (80, _), (98, _), (112, _)] := hE.sel [1, 6, 7, 9, 39, 47, 63, 80, 98, 112] rfl
            refine hK20 _ _ ?_
            replace hE := hE.cast 112 rfl (show _ = Value.bool false from (congrArg Value.bool (by simp)))
            refine wp_cond_false (hE.eval rfl) ?_
            refine wp_skip ?_
            refine q_block_n ?_
            refine hK14 _ _ ?_
            refine wp_plain [true, true, true] rfl rfl ?_
            refine s_move hE rfl rfl ?_; clear hE a; intro a hE
            refine s_bin hE rfl rfl (bin_add (wrap_i64 (by omega) (by omega))) rfl ?_; clear hE a; intro a hE
            refine s_assign hE rfl rfl ?_; clear hE a; intro a hE
            refine q_nil ?_
            replace hE : Env a 114 [(1, _), (6, _), (7, _), (9, _), (39, _), (47, _), (63, _), (80, _), (98, _), (112, _)] := hE.sel [1, 6, 7, 9, 39, 47, 63, 80, 98, 112] rfl
            replace hE := hE.cast 9 rfl (show _ = Value.int .i64 ((i + 1 : Nat) : Int) from congrArg _ (by omega))
            replace hM : Mem _ _ w17 [_, _, _, _, _, _] := hM.pick [3, 1, 4, 5, 0, 2] rfl
            exact ⟨i + 1, ⟨by omega, q1, t1, hq1, hE.sel [1, 6, 7, 9] rfl, hM.pick [0, 1, 2, 3] rfl⟩, by omega⟩
          · replace hE := hE'; clear hE'
            refine wp_cond_false (hE.eval rfl) ?_
            refine wp_seq_k (fun K19 hK19 => ?_)
            refine wp_drawnM hM (by kernel_rfl) (fun b => b = tb ∨ b = rb) [(0, true), (1, true), (2, true), (3, true), (4, true), (5, true), (7, true), (8, true), (9, true), (10, true), (11, true), (12, true), (6, false), (13, false), (14, true)] [(6, [(13, 6), (14, 6)]), (13, [(14, 13)])] (by kernel_rfl) rfl ?_
            intro w11 hM' hww11; clear hM; have hM := hM'; clear hM'
            refine s_move hE rfl rfl ?_; clear hE a; intro a hE
            refine s_move hE rfl rfl ?_; clear hE a; intro a hE
            refine s_move hE rfl rfl ?_; clear hE a; intro a hE
            refine s_indexRd (j := i) hE rfl (hM.get 3 rfl) rfl slt54 (by first | rfl | omega) (by first | omega | decide) rfl ?_; clear hE a; intro a p51 hE hc51 hp51
            rw [two_elem (by omega)] at hc51
            refine s_fieldAt hE rfl hc51 fo59_1 rfl ?_; clear hE a; intro a p52 hE hc52 hp52
            refine s_loadAt1 hE rfl hc52 one3 (by intro X h; cases h; intro b hb hx; rcases hx with rfl | rfl; exact hM.notX 0 3 rfl rfl (by decide) _ (List.mem_singleton.2 rfl) (hp51 _ (hp52 _ hb)); exact hM.notX 1 3 rfl rfl (by decide) _ (List.mem_singleton.2 rfl) (hp51 _ (hp52 _ hb))) rfl ?_; clear hE a; intro a hE
            refine s_move hE rfl rfl ?_; clear hE a; intro a hE
            refine s_move hE rfl rfl ?_; clear hE a; intro a hE
            refine s_move hE rfl rfl ?_; clear hE a; intro a hE
            refine s_indexRd (j := i) hE rfl (hM.get 3 rfl) rfl slt54 (by first | rfl | omega) (by first | omega | decide) rfl ?_; clear hE a; intro a p58 hE hc58 hp58
            rw [two_elem (by omega)] at hc58
            refine s_fieldAt hE rfl hc58 fo59_1 rfl ?_; clear hE a; intro a p59 hE hc59 hp59
            refine s_loadAt1 hE rfl hc59 one3 (by intro X h; cases h; intro b hb hx; rcases hx with rfl | rfl; exact hM.notX 0 3 rfl rfl (by decide) _ (List.mem_singleton.2 rfl) (hp58 _ (hp59 _ hb)); exact hM.notX 1 3 rfl rfl (by decide) _ (List.mem_singleton.2 rfl) (hp58 _ (hp59 _ hb))) rfl ?_; clear hE a; intro a hE
            refine s_call hE rfl Try.call30 (tapText_c tb bb _ _ _ _ (hM.get 0 rfl)) rfl ?_
            rintro e w12 ⟨rfl, hN⟩
            refine ⟨_, rfl, (hN.sta.mono (fun b hb => .inl (List.mem_singleton.1 hb))), ?_⟩; clear hE a; intro a hE
            replace hM : Mem _ _ w12 [_, _, _, _] := hM.call1 hN (fun f hf x hx => by rw [List.mem_singleton.1 hf] at hx; exact .inl hx); clear hN
            replace hM : Mem _ _ w12 [_, _, _, _] := hM.pick [1, 0, 2, 3] rfl
            refine s_call hE rfl Try.call31 (refTText_c rb vB B cB q t _ _ (hM.get 0 rfl) (hM.get 2 rfl) (hM.notX 0 2 rfl rfl (by decide) _ (List.mem_singleton.2 rfl)) hq (by omega)) rfl ?_
            rintro e w13 ⟨q1, rfl, hq1, hd1, hN⟩
            refine ⟨_, rfl, (hN.sta.mono (fun b hb => .inr (List.mem_singleton.1 hb))), ?_⟩; clear hE a; intro a hE
            replace hM : Mem _ _ w13 [_, _, _, _] := hM.call1' hN ⟨rfl, trivial⟩; clear hN
            rw [hd1] at hM
            generalize (tText (B.drop q) t (ls.getD i (0, 0)).2).2.2 = t1 at hM
            refine s_bin hE rfl rfl bins_str.2 rfl ?_; clear hE a; intro a hE
            refine q_nil ?_
            replace hE : Env a 114 [(1, _), (6, _), (7, _), (9, _), (39, _), (47, _), (62, _), (63, _), (80, _)] := hE.sel [1, 6, 7, 9, 39, 47, 62, 63, 80] rfl
            refine hK19 _ _ ?_
            replace hE := hE.cast 62 rfl (show _ = Value.bool false from (congrArg Value.bool (by simp)))
            refine wp_cond_false (hE.eval rfl) ?_
            refine wp_skip ?_
            refine q_block_n ?_
            refine hK15 _ _ ?_
            refine wp_seq_k (fun K20 hK20 => ?_)
            refine wp_drawnM hM (by kernel_rfl) (fun _ => False) [(0, true), (2, true), (3, true), (4, true), (5, true), (1, false), (6, true), (7, true), (8, true), (10, true), (9, false), (11, false), (12, true), (13, true)] [(1, [(6, 1), (7, 1), (8, 7), (10, 7), (9, 8), (11, 9), (12, 9), (13, 12)]), (9, [(11, 9), (12, 9), (13, 12)]), (11, [(12, 11), (13, 12)])] (by kernel_rfl) rfl ?_
            intro w14 hM' hww14; clear hM; have hM := hM'; clear hM'
            refine s_move hE rfl rfl ?_; clear hE a; intro a hE
            refine s_move hE rfl rfl ?_; clear hE a; intro a hE
            refine s_nilCheck hE rfl rfl ?_; clear hE a; intro a hE
            refine s_fieldAddr hE rfl fo57_2 rfl ?_; clear hE a; intro a hE
            refine s_load1 hE rfl (hM.get 0 rfl) rfl one4 (by intro X h; cases h; simp) rfl ?_; clear hE a; intro a hE
            refine s_call hE rfl Try.call32 (tapTorn_c tb bb _ _ _ (hM.get 1 rfl)) rfl ?_
            rintro e w15 ⟨rfl, hN⟩
            refine ⟨_, rfl, hN.sta0 _, ?_⟩; clear hE a; intro a hE
            replace hM : Mem _ _ w15 [_, _, _, _] := hM.call0 hN trivial; clear hN
            refine s_bin hE rfl rfl (bins_bool Try.underlying4).2 rfl ?_; clear hE a; intro a hE
            refine s_move hE rfl rfl ?_; clear hE a; intro a hE
            replace hE := hE.cast 106 rfl (show _ = Value.bool false from (congrArg Value.bool (by simp)))
            refine g_yes hE rfl rfl ?_
            refine s_move hE rfl rfl ?_; clear hE a; intro a hE
            refine g_yes hE rfl rfl ?_
            refine s_move hE rfl rfl ?_; clear hE a; intro a hE
            refine g_yes hE rfl rfl ?_
            refine s_call hE rfl Try.call26 (tapEnd_c tb bb _ _ _ (hM.get 1 rfl)) rfl ?_
            rintro e w16 ⟨rfl, hN⟩
            refine ⟨_, rfl, hN.sta0 _, ?_⟩; clear hE a; intro a hE
            replace hM : Mem _ _ w16 [_, _, _, _] := hM.call0 hN trivial; clear hN
            refine g_yes hE rfl rfl ?_
            refine s_call hE rfl Try.call33 (refTEnd_c rb vB B cB q1 t1 _ (hM.get 0 rfl) (hM.get 2 rfl) hq1) rfl ?_
            rintro e w17 ⟨rfl, hN⟩
            refine ⟨_, rfl, hN.sta0 _, ?_⟩; clear hE a; intro a hE
            replace hM : Mem _ _ w17 [_, _, _, _] := hM.call0 hN trivial; clear hN
            refine g_yes hE rfl rfl ?_
            refine s_bin hE rfl rfl (bins_bool Try.underlying4).2 rfl ?_; clear hE a; intro a hE
            refine s_pickf hE rfl rfl rfl ?_; clear hE a; intro a hE
            refine q_nil ?_
            replace hE : Env a 114 [(1, _), (6, _), (7, _), (9, _), (39, _), (47, _), (62, _), (63, _), (80, _), (112, _)] := hE.sel [1, 6, 7, 9, 39, 47, 62, 63, 80, 112] rfl
            refine hK20 _ _ ?_
            replace hE := hE.cast 112 rfl (show _ = Value.bool false from (congrArg Value.bool (by simp)))
            refine wp_cond_false (hE.eval rfl) ?_
            refine wp_skip ?_
            refine q_block_n ?_
            refine hK14 _ _ ?_
            refine wp_plain [true, true, true] rfl rfl ?_
            refine s_move hE rfl rfl ?_; clear hE a; intro a hE
            refine s_bin hE rfl rfl (bin_add (wrap_i64 (by omega) (by omega))) rfl ?_; clear hE a; intro a hE
            refine s_assign hE rfl rfl ?_; clear hE a; intro a hE
            refine q_nil ?_
            replace hE : Env a 114 [(1, _), (6, _), (7, _), (9, _), (39, _), (47, _), (62, _), (63, _), (80, _), (112, _)] := hE.sel [1, 6, 7, 9, 39, 47, 62, 63, 80, 112] rfl
            replace hE := hE.cast 9 rfl (show _ = Value.int .i64 ((i + 1 : Nat) : Int) from congrArg _ (by omega))
            replace hM : Mem _ _ w17 [_, _, _, _] := hM.pick [1, 0, 2, 3] rfl
            exact ⟨i + 1, ⟨by omega, q1, t1, hq1, hE.sel [1, 6, 7, 9] rfl, hM.pick [0, 1, 2, 3] rfl⟩, by omega⟩
      · replace hE := hE'; clear hE'
        replace hb39 := of_decide_eq_false hb39
        refine wp_cond_false (hE.eval rfl) ?_
        refine wp_exit ?_
        refine q_then_e ?_
        refine q_then_e ?_
        refine q_block_x ?_
        refine hK10 _ _ ?_
        refine wp_seq_k (fun K14 hK14 => ?_)
        refine wp_plain [false, true] rfl rfl ?_
        refine s_call hE rfl Try.call16 (works_c _) rfl ?_
        rintro e w11 ⟨rfl, hN⟩
        refine ⟨_, rfl, trivial, ?_⟩; clear hE a; intro a hE
        replace hM : Mem _ _ w11 [_, _, _, _] := hM.call0 hN trivial; clear hN
        refine s_assign hE rfl rfl ?_; clear hE a; intro a hE
        refine q_nil ?_
        replace hE : Env a 114 [(1, _), (4, _), (6, _), (7, _), (9, _), (39, _)] := hE.sel [1, 4, 6, 7, 9, 39] rfl
        refine hK14 _ _ ?_
        refine wp_ret ?_
        refine f_ret1 hE rfl rfl ?_
        exact ⟨rfl, hM.nil⟩
    · replace hE := hE'; clear hE'
      replace hb36 := of_decide_eq_false hb36
      refine g_no (b := false) hE rfl rfl rfl ?_; clear hE a; intro a hE
      refine g_no (b := false) hE rfl rfl rfl ?_; clear hE a; intro a hE
      refine s_pickf hE rfl rfl rfl ?_; clear hE a; intro a hE
      refine q_nil ?_
      replace hE : Env a 114 [(1, _), (6, _), (7, _), (9, _), (39, _)] := hE.sel [1, 6, 7, 9, 39] rfl
      refine hK13 _ _ ?_
      refine wp_cond_false (hE.eval rfl) ?_
      refine wp_exit ?_
      refine q_then_e ?_
      refine q_then_e ?_
      refine q_block_x ?_
      refine hK10 _ _ ?_
      refine wp_seq_k (fun K14 hK14 => ?_)
      refine wp_plain [false, true] rfl rfl ?_
      refine s_call hE rfl Try.call16 (works_c _) rfl ?_
      rintro e w11 ⟨rfl, hN⟩
      refine ⟨_, rfl, trivial, ?_⟩; clear hE a; intro a hE
      replace hM : Mem _ _ w11 [_, _, _, _] := hM.call0 hN trivial; clear hN
      refine s_assign hE rfl rfl ?_; clear hE a; intro a hE
      refine q_nil ?_
      replace hE : Env a 114 [(1, _), (4, _), (6, _), (7, _), (9, _), (39, _)] := hE.sel [1, 4, 6, 7, 9, 39] rfl
      refine hK14 _ _ ?_
      refine wp_ret ?_
      refine f_ret1 hE rfl rfl ?_
      exact ⟨rfl, hM.nil⟩
set_option maxRecDepth 100000 in
theorem bytesTakes_lifted (os : Os) (started : os.Started) (H : Type) (enc : TypeId × Value → H) :
    ReturnsInHanded {} Try.checked os 7 .any (Rows.bytesTakesSpec.pre6 enc Try.prog Try.f7 Rows.bytesTakesRow.domain false) (Rows.bytesTakesSpec.post enc Try.prog Try.f7 false true false false) := by
  refine law_lifted (C := Try.checked) (fn := Try.f7) (by kernel_rfl) started (by kernel_rfl) Try.func7 rfl (fun ds hl => ?_) rfl Try.underlying4 (by kernel_rfl) (of_decide_eq_true (by kernel_rfl)) (ChangeSpec.witness6 (enc := enc) (C := Try.checked) false ⟨#[], #[.slice none 0 0, .slice none 0 0], []⟩ 8 (by kernel_rfl) (by kernel_rfl) (by kernel_rfl) (by kernel_rfl)) ?_
  · rw [Try.params7] at hl
    match ds, hl with
    | [_, _], _ => rfl
  · intro W base args ds ps hval hA hw
    rw [Try.params7] at hA hval hw
    obtain ⟨v0, vs0, d0, ds0, p0, q0, hargs, rfl, rfl, h0, r0⟩ := trodAll_cons hA
    obtain ⟨v1, vs1, d1, ds1, p1, q1, rfl, rfl, rfl, h1, r1⟩ := trodAll_cons r0
    obtain ⟨rfl, rfl, rfl⟩ := trodAll_nil r1
    obtain rfl : args = #[v0, v1] := by cases args; simp_all
    obtain ⟨bs0, c0, hr0, hb0⟩ := arg_bytes Try.underlying23 Try.underlying5 (by kernel_rfl) (by kernel_rfl) (hval 0 23 v0 rfl rfl) h0 (fun m hm => hw m (by simp only [DataW.weightsEach, List.mem_append]; exact .inl hm))
    obtain ⟨ls, c1, hr1, hl1⟩ := arg_two Try.underlying54 (by kernel_rfl) (by kernel_rfl) (dec_two (t0 := 3) (t1 := 3) Try.underlying59 (by kernel_rfl) (by kernel_rfl) Try.underlying3 Try.underlying3) (hval 1 54 v1 rfl rfl) h1 (fun m hm => hw m (by simp only [DataW.weightsEach, List.mem_append]; exact .inr (.inl hm)))
    exact bytesTakes_c bs0 v0 v1 c0 c1 ls W hr0 hr1 (Nat.le_trans hl1 (by decide))

/-- The statement. -/
theorem bytesTakes_holds : Rows.BytesTakesSaid :=
  OpenClaim.holds_of_wide 7 Try.f7 rfl rfl rfl rfl rfl rfl rfl ⟨rfl, rfl, rfl, rfl, rfl⟩ rfl rfl rfl rfl rfl (by kernel_rfl) Try.func7 (by kernel_rfl)
    (of_decide_eq_true (by kernel_rfl)) (by unfold Func.isWrapper; first | (rw [if_pos (by decide +kernel)]; kernel_rfl) | (rw [if_neg (by decide +kernel)]; exact ⟨rfl, rfl⟩))
    (fun os started H enc _ => bytesTakes_lifted os started H enc)
#print axioms bytesTakes_holds
end Go.Proofs.Ytfdndkempgnlcaa
