/- BytesRow of casematelaw06 returns true for whatever domain, parts and bytes; they read behind the call as before. No condition. -/
import Derived.Test.YtfdndkempgnlcaaLb
namespace Go.Proofs.Ytfdndkempgnlcaa
open Go Go.Kx
open Go.ChangeShapes Go.WideShapes Go.ChangeAt Go.RowKit
theorem sz5 : (Try.prog.info? 5).map (·.size) = some 1 := by kernel_rfl
theorem refWidth_c (x : Int) (w : World) : Calls Try.prog 39 #[.int .i64 x] w fun e w' => e = .returned (.bool (widthB x)) ∧ Mem w [] w' [] := by
  have hM := Mem.start0 w
  refine f_enter 17 Try.func39 rfl rfl rfl ?_
  intro a hE
  replace hE : Env a 17 [(0, _)] := hE
  refine wp_seq_k (fun K1 hK1 => ?_)
  refine wp_plain [true] rfl rfl ?_
  refine s_assign hE rfl rfl ?_; clear hE a; intro a hE
  refine q_nil ?_
  refine hK1 _ _ ?_
  refine wp_seq_k (fun K2 hK2 => ?_)
  refine wp_plain [true, true, true, true, true, true, true, true, true, true, true, true, true, true, true] rfl rfl ?_
  refine s_move hE rfl rfl ?_; clear hE a; intro a hE
  refine s_bin hE rfl rfl bin_eql rfl ?_; clear hE a; intro a hE
  refine s_move hE rfl rfl ?_; clear hE a; intro a hE
  refine hE.split 5 rfl (fun hb5 hE' => ?_) (fun hb5 hE' => ?_)
  · replace hE := hE'; clear hE'
    refine g_no (b := true) hE rfl rfl rfl ?_; clear hE a; intro a hE
    refine g_no (b := true) hE rfl rfl rfl ?_; clear hE a; intro a hE
    refine s_pickt hE rfl rfl rfl ?_; clear hE a; intro a hE
    refine s_move hE rfl rfl ?_; clear hE a; intro a hE
    refine g_no (b := true) hE rfl rfl rfl ?_; clear hE a; intro a hE
    refine g_no (b := true) hE rfl rfl rfl ?_; clear hE a; intro a hE
    refine s_pickt hE rfl rfl rfl ?_; clear hE a; intro a hE
    refine s_move hE rfl rfl ?_; clear hE a; intro a hE
    refine g_no (b := true) hE rfl rfl rfl ?_; clear hE a; intro a hE
    refine g_no (b := true) hE rfl rfl rfl ?_; clear hE a; intro a hE
    refine s_pickt hE rfl rfl rfl ?_; clear hE a; intro a hE
    refine s_assign hE rfl rfl ?_; clear hE a; intro a hE
    refine q_nil ?_
    replace hE : Env a 17 [(2, _)] := hE.sel [2] rfl
    refine hK2 _ _ ?_
    refine wp_ret ?_
    refine f_ret1 hE rfl rfl ?_
    exact ⟨by simp [widthB, hb5], hM⟩
  · replace hE := hE'; clear hE'
    refine g_yes hE rfl rfl ?_
    refine s_move hE rfl rfl ?_; clear hE a; intro a hE
    refine g_yes hE rfl rfl ?_
    refine s_bin hE rfl rfl bin_eql rfl ?_; clear hE a; intro a hE
    refine s_pickf hE rfl rfl rfl ?_; clear hE a; intro a hE
    refine s_move hE rfl rfl ?_; clear hE a; intro a hE
    refine hE.split 9 rfl (fun hb9 hE' => ?_) (fun hb9 hE' => ?_)
    · replace hE := hE'; clear hE'
      refine g_no (b := true) hE rfl rfl rfl ?_; clear hE a; intro a hE
      refine g_no (b := true) hE rfl rfl rfl ?_; clear hE a; intro a hE
      refine s_pickt hE rfl rfl rfl ?_; clear hE a; intro a hE
      refine s_move hE rfl rfl ?_; clear hE a; intro a hE
      refine g_no (b := true) hE rfl rfl rfl ?_; clear hE a; intro a hE
      refine g_no (b := true) hE rfl rfl rfl ?_; clear hE a; intro a hE
      refine s_pickt hE rfl rfl rfl ?_; clear hE a; intro a hE
      refine s_assign hE rfl rfl ?_; clear hE a; intro a hE
      refine q_nil ?_
      replace hE : Env a 17 [(2, _)] := hE.sel [2] rfl
      refine hK2 _ _ ?_
      refine wp_ret ?_
      refine f_ret1 hE rfl rfl ?_
      exact ⟨by simp [widthB, hb5, hb9], hM⟩
    · replace hE := hE'; clear hE'
      refine g_yes hE rfl rfl ?_
      refine s_move hE rfl rfl ?_; clear hE a; intro a hE
      refine g_yes hE rfl rfl ?_
      refine s_bin hE rfl rfl bin_eql rfl ?_; clear hE a; intro a hE
      refine s_pickf hE rfl rfl rfl ?_; clear hE a; intro a hE
      refine s_move hE rfl rfl ?_; clear hE a; intro a hE
      refine hE.split 13 rfl (fun hb13 hE' => ?_) (fun hb13 hE' => ?_)
      · replace hE := hE'; clear hE'
        refine g_no (b := true) hE rfl rfl rfl ?_; clear hE a; intro a hE
        refine g_no (b := true) hE rfl rfl rfl ?_; clear hE a; intro a hE
        refine s_pickt hE rfl rfl rfl ?_; clear hE a; intro a hE
        refine s_assign hE rfl rfl ?_; clear hE a; intro a hE
        refine q_nil ?_
        replace hE : Env a 17 [(2, _)] := hE.sel [2] rfl
        refine hK2 _ _ ?_
        refine wp_ret ?_
        refine f_ret1 hE rfl rfl ?_
        exact ⟨by simp [widthB, hb5, hb9, hb13], hM⟩
      · replace hE := hE'; clear hE'
        refine g_yes hE rfl rfl ?_
        refine s_move hE rfl rfl ?_; clear hE a; intro a hE
        refine g_yes hE rfl rfl ?_
        refine s_bin hE rfl rfl bin_eql rfl ?_; clear hE a; intro a hE
        refine s_pickf hE rfl rfl rfl ?_; clear hE a; intro a hE
        refine s_assign hE rfl rfl ?_; clear hE a; intro a hE
        refine q_nil ?_
        replace hE : Env a 17 [(2, _)] := hE.sel [2] rfl
        refine hK2 _ _ ?_
        refine wp_ret ?_
        refine f_ret1 hE rfl rfl ?_
        exact ⟨by simp [widthB, hb5, hb9, hb13], hM⟩
theorem refDigits_c (k m : Nat) (w : World) (hk : k ≤ 8) (hm : m < 2 ^ 64) : Calls Try.prog 35 #[.int .i64 k, .int .u64 m] w fun e w' => ∃ v', e = .returned v' ∧ Mem w [] w' [own v' 1 k (bv (laid k m))] := by
  have hM := Mem.start0 w
  refine f_enter 24 Try.func35 rfl rfl rfl ?_
  intro a hE
  replace hE : Env a 24 [(0, _), (1, _)] := hE
  refine wp_seq_k (fun K1 hK1 => ?_)
  refine wp_plain [true] rfl rfl ?_
  refine s_assign hE rfl rfl ?_; clear hE a; intro a hE
  refine q_nil ?_
  refine hK1 _ _ ?_
  refine wp_seq_k (fun K2 hK2 => ?_)
  refine wp_plain [true, false, true] rfl rfl ?_
  refine s_move hE rfl rfl ?_; clear hE a; intro a hE
  refine s_makeSlice (m := k) (zc := [bV 0]) hE rfl rfl hM sl23 ⟨_, rfl, rfl⟩ rfl rfl (by omega) (by omega) (by decide) rfl ?_; clear hE a; intro a v8 w1 hE hM'; clear hM; have hM := hM'; clear hM'
  replace hM := hM.ownEq (m' := k) (cs' := bv (List.replicate k 0)) rfl (by simp [bv])
  refine s_assign hE rfl rfl ?_; clear hE a; intro a hE
  refine q_nil ?_
  replace hE : Env a 24 [(0, _), (1, _), (4, _), (5, _)] := hE.sel [0, 1, 4, 5] rfl
  refine hK2 _ _ ?_
  refine wp_seq_k (fun K3 hK3 => ?_)
  refine wp_seq_k (fun K4 hK4 => ?_)
  refine wp_plain [true, true, true] rfl rfl ?_
  refine s_move hE rfl rfl ?_; clear hE a; intro a hE
  refine s_bin (r := .int .i64 ((k : Int) - 1)) hE rfl rfl (bin_sub (wrap_i64 (by omega) (by omega))) rfl ?_; clear hE a; intro a hE
  refine s_assign hE rfl rfl ?_; clear hE a; intro a hE
  refine q_nil ?_
  replace hE : Env a 24 [(0, _), (1, _), (4, _), (5, _), (6, _)] := hE.sel [0, 1, 4, 5, 6] rfl
  refine hK4 _ _ ?_
  refine wp_block ?_
  refine c_loop (fun (i : Nat) a w' => ∃ (j n : Nat) (bs : List UInt8), j ≤ k ∧ i = k - j ∧ n = m / 256 ^ (k - j) ∧ n < 2 ^ 64 ∧ bs.length = k ∧ (∀ p, j ≤ p → p < k → bs.getD p 0 = (laid k m).getD p 0) ∧ Env a 24 [(1, .int .u64 n), (5, v8), (6, .int .i64 ((j : Int) - 1))] ∧ Mem w [] w' [own v8 1 k (bv bs)]) (fun i => k - i) 0 ⟨k, m, List.replicate k 0, Nat.le_refl _, by omega, by simp, hm, by simp, fun p h1 h2 => absurd h2 (by omega), hE.sel [1, 5, 6] rfl, hM⟩ ?_
  clear hE hM a; rintro i a w9 ⟨j, n, bs, hj, hi, hn, hnm, hbs, hp, hE, hM⟩
  refine wp_seq_k (fun K5 hK5 => ?_)
  refine wp_seq_k (fun K6 hK6 => ?_)
  refine wp_plain [true, true] rfl rfl ?_
  refine s_move hE rfl rfl ?_; clear hE a; intro a hE
  refine s_bin hE rfl rfl bin_geq rfl ?_; clear hE a; intro a hE
  refine q_nil ?_
  replace hE : Env a 24 [(1, _), (5, _), (6, _), (12, _)] := hE.sel [1, 5, 6, 12] rfl
  refine hK6 _ _ ?_
  refine hE.split 12 rfl (fun hb12 hE' => ?_) (fun hb12 hE' => ?_)
  · replace hE := hE'; clear hE'
    replace hb12 := of_decide_eq_true hb12
    refine wp_cond_true (hE.eval rfl) ?_
    refine wp_skip ?_
    refine hK5 _ _ ?_
    refine wp_seq_k (fun K7 hK7 => ?_)
    refine wp_block ?_
    refine wp_seq_k (fun K8 hK8 => ?_)
    refine wp_plain [true, true, true, true, true, true, false] rfl rfl ?_
    refine s_move hE rfl rfl ?_; clear hE a; intro a hE
    refine s_move hE rfl rfl ?_; clear hE a; intro a hE
    refine s_move hE rfl rfl ?_; clear hE a; intro a hE
    refine s_bin hE rfl rfl (bin_rem_nat (s := 256) (by decide)) rfl ?_; clear hE a; intro a hE
    refine s_conv hE rfl (cnv_int Try.underlying42 Try.underlying5 (by rw [wrap_u8_ofNat, ofNat_mod])) rfl ?_; clear hE a; intro a hE
    refine s_indexOwn (j := (j - 1)) hE rfl (hM.get 0 rfl) rfl slt23 (by first | rfl | omega) (by first | omega | decide) rfl ?_; clear hE a; intro a hE hc20
    refine s_storeOwn (vs := [bV _]) hE rfl rfl hM rfl sz5 rfl (by intro u hu; rw [List.mem_singleton.1 hu]; rfl) (by simp; omega) (by omega) (by intro X h; cases h) ?_; intro w10 hM'; clear hM; have hM := hM'; clear hM'
    refine q_nil ?_
    replace hE : Env a 24 [(1, _), (5, _), (6, _), (12, _)] := hE.sel [1, 5, 6, 12] rfl
    refine hK8 _ _ ?_
    refine wp_plain [true, true, true] rfl rfl ?_
    refine s_move hE rfl rfl ?_; clear hE a; intro a hE
    refine s_bin hE rfl rfl (bin_quo_nat (s := 256) (by decide) (wrap_u64 (by omega) (by have := Nat.div_le_self n 256; omega))) rfl ?_; clear hE a; intro a hE
    refine s_assign hE rfl rfl ?_; clear hE a; intro a hE
    refine q_nil ?_
    replace hE : Env a 24 [(1, _), (5, _), (6, _), (12, _)] := hE.sel [1, 5, 6, 12] rfl
    refine q_block_n ?_
    refine hK7 _ _ ?_
    refine wp_plain [true, true, true] rfl rfl ?_
    refine s_move hE rfl rfl ?_; clear hE a; intro a hE
    refine s_bin hE rfl rfl (bin_sub (wrap_i64 (by omega) (by omega))) rfl ?_; clear hE a; intro a hE
    refine s_assign hE rfl rfl ?_; clear hE a; intro a hE
    refine q_nil ?_
    replace hE : Env a 24 [(1, _), (5, _), (6, _), (12, _)] := hE.sel [1, 5, 6, 12] rfl
    rw [bv_set (by omega)] at hM
    refine ⟨i + 1, ⟨j - 1, n / 256, _, by omega, by omega, ?_, by have := Nat.div_le_self n 256; omega, by simpa using hbs, ?_, (hE.cast 6 rfl (show _ = Value.int .i64 (((j - 1 : Nat) : Int) - 1) from congrArg _ (by omega))).sel [1, 5, 6] rfl, hM⟩, by omega⟩
    · rw [hn, Nat.div_div_eq_div_mul, ← Nat.pow_succ]; congr 2; omega
    · intro p h1 h2
      by_cases e : p = j - 1
      · subst e
        rw [laid_get (by omega), hn]
        simp [List.getD, show j - 1 < bs.length by omega]
        congr 3; omega
      · have := hp p (by omega) h2
        rw [← this]
        simp [List.getD, List.getElem?_set_ne (Ne.symm e)]
  · replace hE := hE'; clear hE'
    replace hb12 := of_decide_eq_false hb12
    refine wp_cond_false (hE.eval rfl) ?_
    refine wp_exit ?_
    refine q_then_e ?_
    refine q_then_e ?_
    refine q_block_x ?_
    refine hK3 _ _ ?_
    refine wp_seq_k (fun K7 hK7 => ?_)
    refine wp_plain [true, true] rfl rfl ?_
    refine s_move hE rfl rfl ?_; clear hE a; intro a hE
    refine s_assign hE rfl rfl ?_; clear hE a; intro a hE
    refine q_nil ?_
    replace hE : Env a 24 [(1, _), (4, _), (5, _), (6, _), (12, _)] := hE.sel [1, 4, 5, 6, 12] rfl
    refine hK7 _ _ ?_
    refine wp_ret ?_
    refine f_ret1 hE rfl rfl ?_
    obtain rfl : j = 0 := by omega
    have e : bs = laid k m := by
      apply List.ext_getElem?
      intro p
      by_cases h : p < k
      · have := hp p (by omega) h
        simp only [List.getD, List.getElem?_eq_getElem (show p < bs.length by omega), List.getElem?_eq_getElem (show p < (laid k m).length by simpa using h), Option.getD_some] at this ⊢
        rw [this]
      · rw [List.getElem?_eq_none (by omega), List.getElem?_eq_none (by simp; omega)]
    subst e
    exact ⟨_, rfl, hM⟩
theorem refValue_c (bs : List UInt8) (v : Value) (c : Nat) (w : World) (hr : (rd v 1 bs.length c (bv bs)).holds w) (hk : bs.length ≤ 8) : Calls Try.prog 36 #[v] w fun e w' => e = .returned (.int .u64 ((val bs : Nat) : Int)) ∧ Mem w [] w' [] := by
  have hM := Mem.startR1 hr rfl
  refine f_enter 20 Try.func36 rfl rfl rfl ?_
  intro a hE
  replace hE : Env a 20 [(0, _)] := hE
  refine wp_seq_k (fun K1 hK1 => ?_)
  refine wp_plain [true] rfl rfl ?_
  refine s_assign hE rfl rfl ?_; clear hE a; intro a hE
  refine q_nil ?_
  refine hK1 _ _ ?_
  refine wp_seq_k (fun K2 hK2 => ?_)
  refine wp_plain [true] rfl rfl ?_
  refine s_assign hE rfl rfl ?_; clear hE a; intro a hE
  refine q_nil ?_
  refine hK2 _ _ ?_
  refine wp_seq_k (fun K3 hK3 => ?_)
  refine wp_seq_k (fun K4 hK4 => ?_)
  refine wp_plain [true] rfl rfl ?_
  refine s_assign hE rfl rfl ?_; clear hE a; intro a hE
  refine q_nil ?_
  refine hK4 _ _ ?_
  refine wp_block ?_
  refine c_loop (fun (i : Nat) a w' => i ≤ bs.length ∧ Env a 20 [(0, v), (3, .int .u64 ((val (bs.take i) : Nat) : Int)), (4, .int .i64 i)] ∧ Mem w [] w' [rd v 1 bs.length c (bv bs)]) (fun i => bs.length - i) 0 ⟨Nat.zero_le _, hE.sel [0, 3, 4] rfl, hM⟩ ?_
  clear hE hM a; rintro i a w9 ⟨hi, hE, hM⟩
  refine wp_seq_k (fun K5 hK5 => ?_)
  refine wp_seq_k (fun K6 hK6 => ?_)
  refine wp_plain [true, true, true, true] rfl rfl ?_
  refine s_move hE rfl rfl ?_; clear hE a; intro a hE
  refine s_move hE rfl rfl ?_; clear hE a; intro a hE
  refine s_len hE rfl Try.underlying23 (rd_slice (hM.get 0 rfl)) rfl ?_; clear hE a; intro a hE
  refine s_bin hE rfl rfl bin_lss rfl ?_; clear hE a; intro a hE
  refine q_nil ?_
  replace hE : Env a 20 [(0, _), (3, _), (4, _), (8, _)] := hE.sel [0, 3, 4, 8] rfl
  refine hK6 _ _ ?_
  refine hE.split 8 rfl (fun hb8 hE' => ?_) (fun hb8 hE' => ?_)
  · replace hE := hE'; clear hE'
    replace hb8 := of_decide_eq_true hb8
    have hv56 := val_lt56 (bs := bs.take i) (by simp; omega)
    have hb8 := (bs.getD i 0).toNat_lt
    refine wp_cond_true (hE.eval rfl) ?_
    refine wp_skip ?_
    refine hK5 _ _ ?_
    refine wp_seq_k (fun K7 hK7 => ?_)
    refine wp_block ?_
    refine wp_plain [true, true, true, true, true, true, true, true, true] rfl rfl ?_
    refine s_move hE rfl rfl ?_; clear hE a; intro a hE
    refine s_bin hE rfl rfl (bin_mul (q := ((256 * val (bs.take i) : Nat) : Int)) (by rw [wrap_u64 (by omega) (by omega)]; omega)) rfl ?_; clear hE a; intro a hE
    refine s_move hE rfl rfl ?_; clear hE a; intro a hE
    refine s_move hE rfl rfl ?_; clear hE a; intro a hE
    refine s_indexRd (j := i) hE rfl (hM.get 0 rfl) rfl slt23 (by first | rfl | omega) (by first | omega | decide) rfl ?_; clear hE a; intro a p15 hE hc15 hp15
    rw [bv_elem (by omega)] at hc15
    refine s_loadAt1 hE rfl hc15 one5 (by intro X h; cases h) rfl ?_; clear hE a; intro a hE
    refine s_conv hE rfl (cnv_int Try.underlying5 Try.underlying42 (wrap_u64 (by omega) (by omega))) rfl ?_; clear hE a; intro a hE
    refine s_bin hE rfl rfl (bin_add (q := ((256 * val (bs.take i) + (bs.getD i 0).toNat : Nat) : Int)) (by rw [wrap_u64 (by omega) (by omega)]; omega)) rfl ?_; clear hE a; intro a hE
    refine s_assign hE rfl rfl ?_; clear hE a; intro a hE
    refine q_nil ?_
    replace hE : Env a 20 [(0, _), (3, _), (4, _), (8, _)] := hE.sel [0, 3, 4, 8] rfl
    refine q_block_n ?_
    refine hK7 _ _ ?_
    refine wp_plain [true, true, true] rfl rfl ?_
    refine s_move hE rfl rfl ?_; clear hE a; intro a hE
    refine s_bin hE rfl rfl (bin_add (wrap_i64 (by omega) (by omega))) rfl ?_; clear hE a; intro a hE
    refine s_assign hE rfl rfl ?_; clear hE a; intro a hE
    refine q_nil ?_
    replace hE : Env a 20 [(0, _), (3, _), (4, _), (8, _)] := hE.sel [0, 3, 4, 8] rfl
    replace hE := hE.cast 4 rfl (show _ = Value.int .i64 ((i + 1 : Nat) : Int) from congrArg _ (by omega))
    refine ⟨i + 1, ⟨by omega, (hE.cast 3 rfl ?_).sel [0, 3, 4] rfl, hM⟩, by omega⟩
    rw [val_take_succ (by omega), Nat.mul_comm]
  · replace hE := hE'; clear hE'
    replace hb8 := of_decide_eq_false hb8
    obtain rfl : i = bs.length := by omega
    refine wp_cond_false (hE.eval rfl) ?_
    refine wp_exit ?_
    refine q_then_e ?_
    refine q_then_e ?_
    refine q_block_x ?_
    refine hK3 _ _ ?_
    refine wp_seq_k (fun K7 hK7 => ?_)
    refine wp_plain [true, true] rfl rfl ?_
    refine s_move hE rfl rfl ?_; clear hE a; intro a hE
    refine s_assign hE rfl rfl ?_; clear hE a; intro a hE
    refine q_nil ?_
    replace hE : Env a 20 [(0, _), (2, _), (3, _), (4, _), (8, _)] := hE.sel [0, 2, 3, 4, 8] rfl
    refine hK7 _ _ ?_
    refine wp_ret ?_
    refine f_ret1 hE rfl rfl ?_
    rw [List.take_length]; exact ⟨rfl, hM.nil⟩
theorem refNum_badw (bs : List UInt8) (v : Value) (x : Int) (m : Nat) (w : World) (hw : widthB x = false) : Calls Try.prog 21 #[v, .int .i64 x, .int .u64 m] w fun e w' => ∃ v', e = .returned (.tuple #[v', .int .i64 (((pNum bs x m).2 : Nat) : Int)]) ∧ Mem w [] w' [own v' 1 (pNum bs x m).1.length (bv (pNum bs x m).1)] := by
  have hM := Mem.start0 w
  refine f_enter 26 Try.func21 rfl rfl rfl ?_
  intro a hE
  replace hE : Env a 26 [(0, _), (1, _), (2, _)] := hE
  refine wp_seq_k (fun K1 hK1 => ?_)
  refine wp_plain [true, true] rfl rfl ?_
  refine s_assign hE rfl rfl ?_; clear hE a; intro a hE
  refine s_assign hE rfl rfl ?_; clear hE a; intro a hE
  refine q_nil ?_
  refine hK1 _ _ ?_
  refine wp_seq_k (fun K2 hK2 => ?_)
  refine wp_seq_k (fun K3 hK3 => ?_)
  refine wp_plain [true, false, true] rfl rfl ?_
  refine s_move hE rfl rfl ?_; clear hE a; intro a hE
  refine s_call hE rfl Try.call39 (refWidth_c _ _) rfl ?_
  rintro e w1 ⟨rfl, hN⟩
  refine ⟨_, rfl, trivial, ?_⟩; clear hE a; intro a hE
  replace hM : Mem _ _ w1 [] := hM.call0 hN trivial; clear hN
  refine s_not hE rfl rfl ?_; clear hE a; intro a hE
  refine q_nil ?_
  replace hE : Env a 26 [(0, _), (1, _), (2, _), (6, _), (7, _), (12, _)] := hE.sel [0, 1, 2, 6, 7, 12] rfl
  refine hK3 _ _ ?_
  replace hE := hE.cast 12 rfl (show _ = Value.bool true from (by rw [hw]; rfl))
  refine wp_cond_true (hE.eval rfl) ?_
  refine wp_seq_k (fun K4 hK4 => ?_)
  refine wp_plain [true, true] rfl rfl ?_
  refine s_assign hE rfl rfl ?_; clear hE a; intro a hE
  refine s_assign hE rfl rfl ?_; clear hE a; intro a hE
  refine q_nil ?_
  refine hK4 _ _ ?_
  refine wp_ret ?_
  refine q_then_r ?_
  refine f_ret2 hE rfl rfl rfl ?_
  have hp : pNum bs x m = ([], 2) := by simp [pNum, numFits, hw]
  rw [hp]; exact ⟨_, rfl, hM.nil.addNil 1⟩
theorem refNum_k (bs : List UInt8) (v : Value) (c : Nat) (k : Nat) (m : Nat) (w : World) (hr : (rd v 1 bs.length c (bv bs)).holds w) (hw : widthB k = true) (hk : k ≤ 8) (hm : m < 2 ^ 64) (hlen : bs.length + 8 ≤ 140737488355328) : Calls Try.prog 21 #[v, .int .i64 k, .int .u64 m] w fun e w' => ∃ v', e = .returned (.tuple #[v', .int .i64 (((pNum bs k m).2 : Nat) : Int)]) ∧ Mem w [] w' [own v' 1 (pNum bs k m).1.length (bv (pNum bs k m).1)] := by
  have hM := Mem.startR1 hr rfl
  refine f_enter 26 Try.func21 rfl rfl rfl ?_
  intro a hE
  replace hE : Env a 26 [(0, _), (1, _), (2, _)] := hE
  refine wp_seq_k (fun K1 hK1 => ?_)
  refine wp_plain [true, true] rfl rfl ?_
  refine s_assign hE rfl rfl ?_; clear hE a; intro a hE
  refine s_assign hE rfl rfl ?_; clear hE a; intro a hE
  refine q_nil ?_
  refine hK1 _ _ ?_
  refine wp_seq_k (fun K2 hK2 => ?_)
  refine wp_seq_k (fun K3 hK3 => ?_)
  refine wp_plain [true, false, true] rfl rfl ?_
  refine s_move hE rfl rfl ?_; clear hE a; intro a hE
  refine s_call hE rfl Try.call39 (refWidth_c _ _) rfl ?_
  rintro e w1 ⟨rfl, hN⟩
  refine ⟨_, rfl, trivial, ?_⟩; clear hE a; intro a hE
  replace hM : Mem _ _ w1 [_] := hM.call0 hN trivial; clear hN
  refine s_not hE rfl rfl ?_; clear hE a; intro a hE
  refine q_nil ?_
  replace hE : Env a 26 [(0, _), (1, _), (2, _), (6, _), (7, _), (12, _)] := hE.sel [0, 1, 2, 6, 7, 12] rfl
  refine hK3 _ _ ?_
  replace hE := hE.cast 12 rfl (show _ = Value.bool false from (by rw [hw]; rfl))
  refine wp_cond_false (hE.eval rfl) ?_
  refine wp_skip ?_
  refine hK2 _ _ ?_
  refine wp_seq_k (fun K4 hK4 => ?_)
  refine wp_plain [true, true, false, true] rfl rfl ?_
  refine s_move hE rfl rfl ?_; clear hE a; intro a hE
  refine s_move hE rfl rfl ?_; clear hE a; intro a hE
  refine s_call hE rfl Try.call35 (refDigits_c k m _ hk hm) rfl ?_
  rintro e w2 ⟨vd, rfl, hN⟩
  refine ⟨_, rfl, trivial, ?_⟩; clear hE a; intro a hE
  replace hM : Mem _ _ w2 [_, _] := hM.call0 hN ⟨rfl, trivial⟩; clear hN
  refine s_assign hE rfl rfl ?_; clear hE a; intro a hE
  refine q_nil ?_
  replace hE : Env a 26 [(0, _), (1, _), (2, _), (6, _), (7, _), (8, _), (12, _)] := hE.sel [0, 1, 2, 6, 7, 8, 12] rfl
  refine hK4 _ _ ?_
  refine wp_seq_k (fun K5 hK5 => ?_)
  refine wp_seq_k (fun K6 hK6 => ?_)
  refine wp_plain [true, false, true, true] rfl rfl ?_
  refine s_move hE rfl rfl ?_; clear hE a; intro a hE
  obtain ⟨cd, hd⟩ := own_rd (hM.get 0 rfl)
  refine s_call hE rfl Try.call36 ((by have h := refValue_c (laid k m) vd cd _ (by rw [laid_length]; exact hd) (by simp; omega); exact h)) rfl ?_
  rintro e w3 ⟨rfl, hN⟩
  refine ⟨_, rfl, trivial, ?_⟩; clear hE a; intro a hE
  replace hM : Mem _ _ w3 [_, _] := hM.call0 hN trivial; clear hN
  refine s_move hE rfl rfl ?_; clear hE a; intro a hE
  refine s_bin hE rfl rfl bin_neq rfl ?_; clear hE a; intro a hE
  refine q_nil ?_
  replace hE : Env a 26 [(0, _), (1, _), (2, _), (6, _), (7, _), (8, _), (12, _), (19, _)] := hE.sel [0, 1, 2, 6, 7, 8, 12, 19] rfl
  refine hK6 _ _ ?_
  refine hE.split 19 rfl (fun hb19 hE' => ?_) (fun hb19 hE' => ?_)
  · replace hE := hE'; clear hE'
    replace hb19 : numFits k m = false := by rw [fits_iff hk hm hw]; exact decide_eq_false (fun h => by rw [h] at hb19; simp at hb19)
    refine wp_cond_true (hE.eval rfl) ?_
    refine wp_seq_k (fun K7 hK7 => ?_)
    refine wp_plain [true, true] rfl rfl ?_
    refine s_assign hE rfl rfl ?_; clear hE a; intro a hE
    refine s_assign hE rfl rfl ?_; clear hE a; intro a hE
    refine q_nil ?_
    refine hK7 _ _ ?_
    refine wp_ret ?_
    refine q_then_r ?_
    refine f_ret2 hE rfl rfl rfl ?_
    have hp : pNum bs k m = ([], 2) := by simp [pNum, hb19]
    rw [hp]; exact ⟨_, rfl, hM.nil.addNil 1⟩
  · replace hE := hE'; clear hE'
    replace hb19 : numFits k m = true := by rw [fits_iff hk hm hw]; exact decide_eq_true (by simp at hb19; omega)
    refine wp_cond_false (hE.eval rfl) ?_
    refine wp_skip ?_
    refine hK5 _ _ ?_
    refine wp_seq_k (fun K7 hK7 => ?_)
    refine wp_plain [true] rfl rfl ?_
    refine s_assign hE rfl rfl ?_; clear hE a; intro a hE
    replace hM := hM.addNil 1
    refine q_nil ?_
    refine hK7 _ _ ?_
    refine wp_seq_k (fun K8 hK8 => ?_)
    refine wp_plain [true, true, false, true] rfl rfl ?_
    refine s_move hE rfl rfl ?_; clear hE a; intro a hE
    refine s_move hE rfl rfl ?_; clear hE a; intro a hE
    have hy := hM.get 2 rfl
    refine s_append hE rfl rfl hM sl23 (Src.rd Try.underlying23 hy (bv_one _)) (len47 (by omega)) (by omega) (by intro X h; cases h) rfl ?_; clear hE a hy; intro a v22 w4 hE hM'
    clear hM; have hM := hM'; clear hM'
    refine s_assign hE rfl rfl ?_; clear hE a; intro a hE
    refine q_nil ?_
    replace hE : Env a 26 [(1, _), (2, _), (6, _), (7, _), (8, _), (9, _), (12, _), (19, _)] := hE.sel [1, 2, 6, 7, 8, 9, 12, 19] rfl
    refine hK8 _ _ ?_
    refine wp_seq_k (fun K9 hK9 => ?_)
    refine wp_plain [true, true, false, true, true] rfl rfl ?_
    refine s_move hE rfl rfl ?_; clear hE a; intro a hE
    refine s_move hE rfl rfl ?_; clear hE a; intro a hE
    obtain ⟨cy, hy⟩ := own_rd (hM.get 1 rfl)
    refine s_append hE rfl rfl hM sl23 (Src.rd Try.underlying23 hy (bv_one _)) (len47 (by omega)) (by omega) (by intro X h; cases h) rfl ?_; clear hE a hy; intro a v25 w5 hE hM'
    clear hM; have hM := hM'; clear hM'
    refine s_assign hE rfl rfl ?_; clear hE a; intro a hE
    refine s_assign hE rfl rfl ?_; clear hE a; intro a hE
    refine q_nil ?_
    replace hE : Env a 26 [(1, _), (2, _), (6, _), (7, _), (8, _), (9, _), (12, _), (19, _)] := hE.sel [1, 2, 6, 7, 8, 9, 12, 19] rfl
    refine hK9 _ _ ?_
    refine wp_ret ?_
    refine f_ret2 hE rfl rfl rfl ?_
    have hp : pNum bs k m = (bs ++ laid k m, 0) := by simp [pNum, hb19]
    rw [hp]; refine ⟨_, rfl, ?_⟩; simpa using hM.pick [0] rfl
theorem refNum_c (bs : List UInt8) (v : Value) (c : Nat) (x : Int) (m : Nat) (w : World) (hr : (rd v 1 bs.length c (bv bs)).holds w) (hm : m < 2 ^ 64) (hlen : bs.length + 8 ≤ 140737488355328) : Calls Try.prog 21 #[v, .int .i64 x, .int .u64 m] w fun e w' => ∃ v', e = .returned (.tuple #[v', .int .i64 (((pNum bs x m).2 : Nat) : Int)]) ∧ Mem w [] w' [own v' 1 (pNum bs x m).1.length (bv (pNum bs x m).1)] := by
  cases hw : widthB x with
  | false => exact refNum_badw bs v x m w hw
  | true =>
    obtain ⟨k, rfl, hk, _⟩ := widthB_nat hw
    exact refNum_k bs v c k m w hr hw hk hm hlen
theorem refText_c (bs : List UInt8) (v : Value) (c : Nat) (s : ByteArray) (w : World) (hr : (rd v 1 bs.length c (bv bs)).holds w) (hlen : bs.length + s.size + 2 ≤ 140737488355328) : Calls Try.prog 23 #[v, .string s] w fun e w' => ∃ v', e = .returned (.tuple #[v', .int .i64 (((pText bs s.data.toList).2 : Nat) : Int)]) ∧ Mem w [] w' [own v' 1 (pText bs s.data.toList).1.length (bv (pText bs s.data.toList).1)] := by
  have hM := Mem.startR1 hr rfl
  have hsz : s.data.toList.length = s.size := rfl
  refine f_enter 22 Try.func23 rfl rfl rfl ?_
  intro a hE
  replace hE : Env a 22 [(0, _), (1, _)] := hE
  refine wp_seq_k (fun K1 hK1 => ?_)
  refine wp_plain [true, true] rfl rfl ?_
  refine s_assign hE rfl rfl ?_; clear hE a; intro a hE
  refine s_assign hE rfl rfl ?_; clear hE a; intro a hE
  refine q_nil ?_
  refine hK1 _ _ ?_
  refine wp_seq_k (fun K2 hK2 => ?_)
  refine wp_seq_k (fun K3 hK3 => ?_)
  refine wp_plain [true, true, true] rfl rfl ?_
  refine s_move hE rfl rfl ?_; clear hE a; intro a hE
  refine s_len_str hE rfl Try.underlying9 rfl ?_; clear hE a; intro a hE
  refine s_bin hE rfl rfl bin_gtr rfl ?_; clear hE a; intro a hE
  refine q_nil ?_
  replace hE : Env a 22 [(0, _), (1, _), (4, _), (5, _), (9, _)] := hE.sel [0, 1, 4, 5, 9] rfl
  refine hK3 _ _ ?_
  refine hE.split 9 rfl (fun hb9 hE' => ?_) (fun hb9 hE' => ?_)
  · replace hE := hE'; clear hE'
    replace hb9 := of_decide_eq_true hb9
    refine wp_cond_true (hE.eval rfl) ?_
    refine wp_seq_k (fun K4 hK4 => ?_)
    refine wp_plain [true, true] rfl rfl ?_
    refine s_assign hE rfl rfl ?_; clear hE a; intro a hE
    refine s_assign hE rfl rfl ?_; clear hE a; intro a hE
    refine q_nil ?_
    refine hK4 _ _ ?_
    refine wp_ret ?_
    refine q_then_r ?_
    refine f_ret2 hE rfl rfl rfl ?_
    have hp : pText bs s.data.toList = ([], 3) := by unfold pText; rw [if_pos (by omega)]
    rw [hp]; exact ⟨_, rfl, hM.nil.addNil 1⟩
  · replace hE := hE'; clear hE'
    replace hb9 := of_decide_eq_false hb9
    refine wp_cond_false (hE.eval rfl) ?_
    refine wp_skip ?_
    refine hK2 _ _ ?_
    refine wp_seq_k (fun K4 hK4 => ?_)
    refine wp_plain [true] rfl rfl ?_
    refine s_assign hE rfl rfl ?_; clear hE a; intro a hE
    replace hM := hM.addNil 1
    refine q_nil ?_
    refine hK4 _ _ ?_
    refine wp_seq_k (fun K5 hK5 => ?_)
    refine wp_plain [true, true, false, true] rfl rfl ?_
    refine s_move hE rfl rfl ?_; clear hE a; intro a hE
    refine s_move hE rfl rfl ?_; clear hE a; intro a hE
    have hy := hM.get 1 rfl
    refine s_append hE rfl rfl hM sl23 (Src.rd Try.underlying23 hy (bv_one _)) (len47 (by omega)) (by omega) (by intro X h; cases h) rfl ?_; clear hE a hy; intro a v12 w1 hE hM'
    clear hM; have hM := hM'; clear hM'
    refine s_assign hE rfl rfl ?_; clear hE a; intro a hE
    refine q_nil ?_
    replace hE : Env a 22 [(1, _), (4, _), (5, _), (6, _), (9, _)] := hE.sel [1, 4, 5, 6, 9] rfl
    refine hK5 _ _ ?_
    refine wp_seq_k (fun K6 hK6 => ?_)
    refine wp_plain [true, true, true, true, false, false, true] rfl rfl ?_
    refine s_move hE rfl rfl ?_; clear hE a; intro a hE
    refine s_move hE rfl rfl ?_; clear hE a; intro a hE
    refine s_len_str hE rfl Try.underlying9 rfl ?_; clear hE a; intro a hE
    refine s_conv hE rfl (cnv_int Try.underlying3 Try.underlying42 (wrap_u64 (by omega) (by omega))) rfl ?_; clear hE a; intro a hE
    refine s_call hE rfl Try.call35 (refDigits_c 2 s.size _ (by omega) (by omega)) rfl ?_
    rintro e w2 ⟨vd, rfl, hN⟩
    refine ⟨_, rfl, trivial, ?_⟩; clear hE a; intro a hE
    replace hM : Mem _ _ w2 [_, _, _] := hM.call0 hN ⟨rfl, trivial⟩; clear hN
    replace hM : Mem _ _ w2 [_, _, _] := hM.pick [1, 0, 2] rfl
    obtain ⟨cy, hy⟩ := own_rd (hM.get 1 rfl)
    refine s_append hE rfl rfl hM sl23 (Src.rd Try.underlying23 hy (bv_one _)) (len47 (by omega)) (by omega) (by intro X h; cases h) rfl ?_; clear hE a hy; intro a v18 w3 hE hM'
    clear hM; have hM := hM'; clear hM'
    replace hM : Mem _ _ w3 [_, _] := hM.pick [0, 2] rfl
    refine s_assign hE rfl rfl ?_; clear hE a; intro a hE
    refine q_nil ?_
    replace hE : Env a 22 [(1, _), (4, _), (5, _), (6, _), (9, _)] := hE.sel [1, 4, 5, 6, 9] rfl
    refine hK6 _ _ ?_
    refine wp_seq_k (fun K7 hK7 => ?_)
    refine wp_plain [true, true, false, true, true] rfl rfl ?_
    refine s_move hE rfl rfl ?_; clear hE a; intro a hE
    refine s_move hE rfl rfl ?_; clear hE a; intro a hE
    refine s_append hE rfl rfl hM sl23 (Src.str Try.underlying9 s) (len47 (by omega)) (by omega) (by intro X h; cases h) rfl ?_; clear hE a; intro a v21 w4 hE hM'; clear hM; have hM := hM'; clear hM'
    refine s_assign hE rfl rfl ?_; clear hE a; intro a hE
    refine s_assign hE rfl rfl ?_; clear hE a; intro a hE
    refine q_nil ?_
    replace hE : Env a 22 [(1, _), (4, _), (5, _), (6, _), (9, _)] := hE.sel [1, 4, 5, 6, 9] rfl
    refine hK7 _ _ ?_
    refine wp_ret ?_
    refine f_ret2 hE rfl rfl rfl ?_
    have hp : pText bs s.data.toList = (bs ++ laid 2 s.size ++ s.data.toList, 0) := by unfold pText; rw [if_neg (by omega)]; rfl
    rw [hp]; refine ⟨_, rfl, ?_⟩; simpa [hsz, Nat.add_assoc] using hM.pick [0] rfl
theorem refRow_c (dm : UInt8) (bb : List Nat) (ps : List (List UInt8)) (v : Value) (vs : List Value) (c : Nat) (w : World) (hv : (rd v 1 ps.length c vs).holds w) (hp : (rdv bb vs ps).holds w) (hlen : rowBytes ps ≤ 140737488355328) : Calls Try.prog 12 #[.int .u8 dm.toNat, v] w fun e w' => ∃ v', e = .returned (.tuple #[v', .int .i64 (((pRow dm ps).2 : Nat) : Int)]) ∧ Mem w [] w' [own v' 1 (pRow dm ps).1.length (bv (pRow dm ps).1)] := by
  have hM := Mem.startR2 hv hp rfl rfl
  have hvl : vs.length = ps.length := by have := hv.1; omega
  refine f_enter 38 Try.func12 rfl rfl rfl ?_
  intro a hE
  replace hE : Env a 38 [(0, _), (1, _)] := hE
  refine wp_seq_k (fun K1 hK1 => ?_)
  refine wp_plain [true, true] rfl rfl ?_
  refine s_assign hE rfl rfl ?_; clear hE a; intro a hE
  refine s_assign hE rfl rfl ?_; clear hE a; intro a hE
  refine q_nil ?_
  refine hK1 _ _ ?_
  refine wp_seq_k (fun K2 hK2 => ?_)
  refine wp_seq_k (fun K3 hK3 => ?_)
  refine wp_plain [true, true, true] rfl rfl ?_
  refine s_move hE rfl rfl ?_; clear hE a; intro a hE
  refine s_len hE rfl Try.underlying22 (rd_slice (hM.get 0 rfl)) rfl ?_; clear hE a; intro a hE
  refine s_bin hE rfl rfl bin_gtr rfl ?_; clear hE a; intro a hE
  refine q_nil ?_
  replace hE : Env a 38 [(0, _), (1, _), (4, _), (5, _), (10, _)] := hE.sel [0, 1, 4, 5, 10] rfl
  refine hK3 _ _ ?_
  refine hE.split 10 rfl (fun hb10 hE' => ?_) (fun hb10 hE' => ?_)
  · replace hE := hE'; clear hE'
    replace hb10 := of_decide_eq_true hb10
    refine wp_cond_true (hE.eval rfl) ?_
    refine wp_seq_k (fun K4 hK4 => ?_)
    refine wp_plain [true, true] rfl rfl ?_
    refine s_assign hE rfl rfl ?_; clear hE a; intro a hE
    refine s_assign hE rfl rfl ?_; clear hE a; intro a hE
    refine q_nil ?_
    refine hK4 _ _ ?_
    refine wp_ret ?_
    refine q_then_r ?_
    refine f_ret2 hE rfl rfl rfl ?_
    have hq : pRow dm ps = ([], 3) := by unfold pRow; rw [if_pos (by omega)]
    rw [hq]; exact ⟨_, rfl, hM.nil.addNil 1⟩
  · replace hE := hE'; clear hE'
    replace hb10 := of_decide_eq_false hb10
    refine wp_cond_false (hE.eval rfl) ?_
    refine wp_skip ?_
    refine hK2 _ _ ?_
    refine wp_seq_k (fun K4 hK4 => ?_)
    refine wp_plain [true, true, true, true, false, true] rfl rfl ?_
    refine s_move hE rfl rfl ?_; clear hE a; intro a hE
    refine s_move hE rfl rfl ?_; clear hE a; intro a hE
    refine s_len hE rfl Try.underlying22 (rd_slice (hM.get 0 rfl)) rfl ?_; clear hE a; intro a hE
    refine s_conv hE rfl (cnv_int Try.underlying3 Try.underlying5 (wrap_u8_ofNat _)) rfl ?_; clear hE a; intro a hE
    refine s_buildSlice (xs := [.tmp 11, .tmp 14]) (bv [dm, UInt8.ofNat ps.length]) hE hM sl23 rfl rfl rfl (by intro v hv; simp at hv; rcases hv with rfl | rfl <;> rfl) rfl rfl rfl rfl ?_; clear hE a; intro a v15 w1 hE hM'
    clear hM; have hM := hM'; clear hM'
    refine s_assign hE rfl rfl ?_; clear hE a; intro a hE
    refine q_nil ?_
    replace hE : Env a 38 [(1, _), (4, _), (5, _), (6, _), (10, _)] := hE.sel [1, 4, 5, 6, 10] rfl
    refine hK4 _ _ ?_
    refine wp_seq_k (fun K5 hK5 => ?_)
    refine wp_seq_k (fun K6 hK6 => ?_)
    refine wp_plain [true] rfl rfl ?_
    refine s_assign hE rfl rfl ?_; clear hE a; intro a hE
    refine q_nil ?_
    refine hK6 _ _ ?_
    refine wp_block ?_
    refine c_loop (fun (i : Nat) a w' => i ≤ ps.length ∧ ∃ vo, Env a 38 [(1, v), (6, vo), (7, .int .i64 i)] ∧ Mem w [] w' [own vo 1 (rowBs dm ps i).length (bv (rowBs dm ps i)), rd v 1 ps.length c vs, rdv bb vs ps]) (fun i => ps.length - i) 0 ⟨Nat.zero_le _, _, hE.sel [1, 6, 7] rfl, hM⟩ ?_
    clear hE hM a; rintro i a w9 ⟨hi, vo, hE, hM⟩
    refine wp_seq_k (fun K7 hK7 => ?_)
    refine wp_seq_k (fun K8 hK8 => ?_)
    refine wp_plain [true, true, true, true] rfl rfl ?_
    refine s_move hE rfl rfl ?_; clear hE a; intro a hE
    refine s_move hE rfl rfl ?_; clear hE a; intro a hE
    refine s_len hE rfl Try.underlying22 (rd_slice (hM.get 1 rfl)) rfl ?_; clear hE a; intro a hE
    refine s_bin hE rfl rfl bin_lss rfl ?_; clear hE a; intro a hE
    refine q_nil ?_
    replace hE : Env a 38 [(1, _), (6, _), (7, _), (19, _)] := hE.sel [1, 6, 7, 19] rfl
    refine hK8 _ _ ?_
    refine hE.split 19 rfl (fun hb19 hE' => ?_) (fun hb19 hE' => ?_)
    · replace hE := hE'; clear hE'
      replace hb19 := of_decide_eq_true hb19
      have hle := rowBs_le dm ps (i + 1)
      rw [rowBs_succ (by omega)] at hle
      simp only [List.length_append, laid_length] at hle
      refine wp_cond_true (hE.eval rfl) ?_
      refine wp_skip ?_
      refine hK7 _ _ ?_
      refine wp_seq_k (fun K9 hK9 => ?_)
      refine wp_block ?_
      refine wp_seq_k (fun K10 hK10 => ?_)
      refine wp_plain [true, true, true, true, true, true, true, false, false, true] rfl rfl ?_
      refine s_move hE rfl rfl ?_; clear hE a; intro a hE
      refine s_move hE rfl rfl ?_; clear hE a; intro a hE
      refine s_move hE rfl rfl ?_; clear hE a; intro a hE
      refine s_indexRd (j := i) hE rfl (hM.get 1 rfl) rfl slt22 (by first | rfl | omega) (by first | omega | decide) rfl ?_; clear hE a; intro a p25 hE hc25 hp25
      rw [elem1 (by omega)] at hc25
      refine s_loadAt1 hE rfl hc25 one23 (by intro X h; cases h) rfl ?_; clear hE a; intro a hE
      refine s_len hE rfl Try.underlying23 (rd_slice (Exists.choose_spec (rdv_get (hM.get 2 rfl) (i := i) (by omega)))) rfl ?_; clear hE a; intro a hE
      refine s_conv hE rfl (cnv_int Try.underlying3 Try.underlying42 (wrap_u64 (by omega) (by omega))) rfl ?_; clear hE a; intro a hE
      refine s_call hE rfl Try.call35 (refDigits_c 4 (ps.getD i []).length _ (by omega) (by omega)) rfl ?_
      rintro e w10 ⟨vd, rfl, hN⟩
      refine ⟨_, rfl, trivial, ?_⟩; clear hE a; intro a hE
      replace hM : Mem _ _ w10 [_, _, _, _] := hM.call0 hN ⟨rfl, trivial⟩; clear hN
      replace hM : Mem _ _ w10 [_, _, _, _] := hM.pick [1, 0, 2, 3] rfl
      obtain ⟨cy, hy⟩ := own_rd (hM.get 1 rfl)
      refine s_append hE rfl rfl hM sl23 (Src.rd Try.underlying23 hy (bv_one _)) (len47 (by omega)) (by omega) (by intro X h; cases h) rfl ?_; clear hE a hy; intro a v30 w11 hE hM'
      clear hM; have hM := hM'; clear hM'
      replace hM : Mem _ _ w11 [_, _, _] := hM.pick [0, 2, 3] rfl
      refine s_assign hE rfl rfl ?_; clear hE a; intro a hE
      refine q_nil ?_
      replace hE : Env a 38 [(1, _), (6, _), (7, _), (19, _)] := hE.sel [1, 6, 7, 19] rfl
      refine hK10 _ _ ?_
      refine wp_plain [true, true, true, true, true, false, true] rfl rfl ?_
      refine s_move hE rfl rfl ?_; clear hE a; intro a hE
      refine s_move hE rfl rfl ?_; clear hE a; intro a hE
      refine s_move hE rfl rfl ?_; clear hE a; intro a hE
      refine s_indexRd (j := i) hE rfl (hM.get 1 rfl) rfl slt22 (by first | rfl | omega) (by first | omega | decide) rfl ?_; clear hE a; intro a p34 hE hc34 hp34
      rw [elem1 (by omega)] at hc34
      refine s_loadAt1 hE rfl hc34 one23 (by intro X h; cases h) rfl ?_; clear hE a; intro a hE
      obtain ⟨ca, hpi2⟩ := rdv_get (hM.get 2 rfl) (i := i) (by omega)
      refine s_append hE rfl rfl hM sl23 (Src.rd Try.underlying23 hpi2 (bv_one _)) (len47 (by omega)) (by omega) (by intro X h; cases h) rfl ?_; clear hE a hpi2; intro a v36 w12 hE hM'; clear hM; have hM := hM'; clear hM'
      refine s_assign hE rfl rfl ?_; clear hE a; intro a hE
      refine q_nil ?_
      replace hE : Env a 38 [(1, _), (6, _), (7, _), (19, _)] := hE.sel [1, 6, 7, 19] rfl
      refine q_block_n ?_
      refine hK9 _ _ ?_
      refine wp_plain [true, true, true] rfl rfl ?_
      refine s_move hE rfl rfl ?_; clear hE a; intro a hE
      refine s_bin hE rfl rfl (bin_add (wrap_i64 (by omega) (by omega))) rfl ?_; clear hE a; intro a hE
      refine s_assign hE rfl rfl ?_; clear hE a; intro a hE
      refine q_nil ?_
      replace hE : Env a 38 [(1, _), (6, _), (7, _), (19, _)] := hE.sel [1, 6, 7, 19] rfl
      replace hE := hE.cast 7 rfl (show _ = Value.int .i64 ((i + 1 : Nat) : Int) from congrArg _ (by omega))
      refine ⟨i + 1, ⟨by omega, _, hE.sel [1, 6, 7] rfl, ?_⟩, by omega⟩
      rw [rowBs_succ (by omega)]; simpa [Nat.add_assoc] using hM
    · replace hE := hE'; clear hE'
      replace hb19 := of_decide_eq_false hb19
      obtain rfl : i = ps.length := by omega
      refine wp_cond_false (hE.eval rfl) ?_
      refine wp_exit ?_
      refine q_then_e ?_
      refine q_then_e ?_
      refine q_block_x ?_
      refine hK5 _ _ ?_
      refine wp_seq_k (fun K9 hK9 => ?_)
      refine wp_plain [true, true, true] rfl rfl ?_
      refine s_move hE rfl rfl ?_; clear hE a; intro a hE
      refine s_assign hE rfl rfl ?_; clear hE a; intro a hE
      refine s_assign hE rfl rfl ?_; clear hE a; intro a hE
      refine q_nil ?_
      replace hE : Env a 38 [(1, _), (4, _), (5, _), (6, _), (7, _), (19, _)] := hE.sel [1, 4, 5, 6, 7, 19] rfl
      refine hK9 _ _ ?_
      refine wp_ret ?_
      refine f_ret2 hE rfl rfl rfl ?_
      have hq : pRow dm ps = (rowBs dm ps ps.length, 0) := by unfold pRow; rw [if_neg (by omega)]
      rw [hq]; exact ⟨_, rfl, hM.pick [0] rfl⟩
theorem refSame_c (ba bb : List Nat) (pa pb : List (List UInt8)) (u v : Value) (us vs : List Value) (ca cb : Nat) (w : World) (hu : (rd u 1 pa.length ca us).holds w) (ha : (rdv ba us pa).holds w) (hv : (rd v 1 pb.length cb vs).holds w) (hb : (rdv bb vs pb).holds w) (hl : pa.length ≤ 140737488355328) : Calls Try.prog 15 #[u, v] w fun e w' => e = .returned (.bool (decide (pa = pb))) ∧ Mem w [] w' [] := by
  have hM : Mem w [] w [rd u 1 pa.length ca us, rdv ba us pa, rd v 1 pb.length cb vs, rdv bb vs pb] := Mem.startR w (fun g hg => by
    simp only [List.mem_cons, List.not_mem_nil, or_false] at hg
    rcases hg with rfl | rfl | rfl | rfl
    · exact ⟨hu, rfl⟩
    · exact ⟨ha, rfl⟩
    · exact ⟨hv, rfl⟩
    · exact ⟨hb, rfl⟩)
  have hul : us.length = pa.length := ha.2.1
  have hvl : vs.length = pb.length := hb.2.1
  refine f_enter 28 Try.func15 rfl rfl rfl ?_
  intro a hE
  replace hE : Env a 28 [(0, _), (1, _)] := hE
  refine wp_seq_k (fun K1 hK1 => ?_)
  refine wp_plain [true] rfl rfl ?_
  refine s_assign hE rfl rfl ?_; clear hE a; intro a hE
  refine q_nil ?_
  refine hK1 _ _ ?_
  refine wp_seq_k (fun K2 hK2 => ?_)
  refine wp_seq_k (fun K3 hK3 => ?_)
  refine wp_plain [true, true, true, true, true] rfl rfl ?_
  refine s_move hE rfl rfl ?_; clear hE a; intro a hE
  refine s_len hE rfl Try.underlying22 (rd_slice (hM.get 0 rfl)) rfl ?_; clear hE a; intro a hE
  refine s_move hE rfl rfl ?_; clear hE a; intro a hE
  refine s_len hE rfl Try.underlying22 (rd_slice (hM.get 2 rfl)) rfl ?_; clear hE a; intro a hE
  refine s_bin hE rfl rfl bin_neq rfl ?_; clear hE a; intro a hE
  refine q_nil ?_
  replace hE : Env a 28 [(0, _), (1, _), (4, _), (10, _)] := hE.sel [0, 1, 4, 10] rfl
  refine hK3 _ _ ?_
  refine hE.split 10 rfl (fun hb10 hE' => ?_) (fun hb10 hE' => ?_)
  · replace hE := hE'; clear hE'
    replace hb10 : pa.length ≠ pb.length := by simp at hb10; omega
    refine wp_cond_true (hE.eval rfl) ?_
    refine wp_seq_k (fun K4 hK4 => ?_)
    refine wp_plain [true] rfl rfl ?_
    refine s_assign hE rfl rfl ?_; clear hE a; intro a hE
    refine q_nil ?_
    refine hK4 _ _ ?_
    refine wp_ret ?_
    refine q_then_r ?_
    refine f_ret1 hE rfl rfl ?_
    refine ⟨?_, hM.nil⟩; rw [decide_eq_false (fun h => hb10 (congrArg List.length h))]
  · replace hE := hE'; clear hE'
    replace hb10 : pa.length = pb.length := by simp at hb10; omega
    refine wp_cond_false (hE.eval rfl) ?_
    refine wp_skip ?_
    refine hK2 _ _ ?_
    refine wp_seq_k (fun K4 hK4 => ?_)
    refine wp_seq_k (fun K5 hK5 => ?_)
    refine wp_plain [true] rfl rfl ?_
    refine s_assign hE rfl rfl ?_; clear hE a; intro a hE
    refine q_nil ?_
    refine hK5 _ _ ?_
    refine wp_block ?_
    refine c_loop (fun (i : Nat) a w' => i ≤ pa.length ∧ pa.take i = pb.take i ∧ Env a 28 [(0, u), (1, v), (5, .int .i64 i)] ∧ Mem w [] w' [rd u 1 pa.length ca us, rdv ba us pa, rd v 1 pb.length cb vs, rdv bb vs pb]) (fun i => pa.length - i) 0 ⟨Nat.zero_le _, rfl, hE.sel [0, 1, 5] rfl, hM⟩ ?_
    clear hE hM a; rintro i a w9 ⟨hi, hpre, hE, hM⟩
    refine wp_seq_k (fun K6 hK6 => ?_)
    refine wp_seq_k (fun K7 hK7 => ?_)
    refine wp_plain [true, true, true, true] rfl rfl ?_
    refine s_move hE rfl rfl ?_; clear hE a; intro a hE
    refine s_move hE rfl rfl ?_; clear hE a; intro a hE
    refine s_len hE rfl Try.underlying22 (rd_slice (hM.get 0 rfl)) rfl ?_; clear hE a; intro a hE
    refine s_bin hE rfl rfl bin_lss rfl ?_; clear hE a; intro a hE
    refine q_nil ?_
    replace hE : Env a 28 [(0, _), (1, _), (5, _), (14, _)] := hE.sel [0, 1, 5, 14] rfl
    refine hK7 _ _ ?_
    refine hE.split 14 rfl (fun hb14 hE' => ?_) (fun hb14 hE' => ?_)
    · replace hE := hE'; clear hE'
      replace hb14 := of_decide_eq_true hb14
      refine wp_cond_true (hE.eval rfl) ?_
      refine wp_skip ?_
      refine hK6 _ _ ?_
      refine wp_seq_k (fun K8 hK8 => ?_)
      refine wp_block ?_
      refine wp_seq_k (fun K9 hK9 => ?_)
      refine wp_drawnM hM (by kernel_rfl) (fun _ => False) [(0, true), (1, true), (2, true), (3, true), (4, true), (5, true), (6, true), (7, true), (8, true), (9, true), (10, true)] [] (by kernel_rfl) rfl ?_
      intro w10 hM' hww10; clear hM; have hM := hM'; clear hM'
      refine s_move hE rfl rfl ?_; clear hE a; intro a hE
      refine s_move hE rfl rfl ?_; clear hE a; intro a hE
      refine s_indexRd (j := i) hE rfl (hM.get 0 rfl) rfl slt22 (by first | rfl | omega) (by first | omega | decide) rfl ?_; clear hE a; intro a p19 hE hc19 hp19
      rw [elem1 (by omega)] at hc19
      refine s_loadAt1 hE rfl hc19 one23 (by intro X h; cases h; simp) rfl ?_; clear hE a; intro a hE
      refine s_toStr hE rfl Try.underlying23 Try.underlying5 Try.underlying9 (Exists.choose_spec (rdv_get (hM.get 1 rfl) (i := i) (by omega))) (by intro X h; cases h; simp) rfl ?_; clear hE a; intro a hE
      refine s_move hE rfl rfl ?_; clear hE a; intro a hE
      refine s_move hE rfl rfl ?_; clear hE a; intro a hE
      refine s_indexRd (j := i) hE rfl (hM.get 2 rfl) rfl slt22 (by first | rfl | omega) (by first | omega | decide) rfl ?_; clear hE a; intro a p24 hE hc24 hp24
      rw [elem1 (by omega)] at hc24
      refine s_loadAt1 hE rfl hc24 one23 (by intro X h; cases h; simp) rfl ?_; clear hE a; intro a hE
      refine s_toStr hE rfl Try.underlying23 Try.underlying5 Try.underlying9 (Exists.choose_spec (rdv_get (hM.get 3 rfl) (i := i) (by omega))) (by intro X h; cases h; simp) rfl ?_; clear hE a; intro a hE
      refine s_bin hE rfl rfl bins_str.2 rfl ?_; clear hE a; intro a hE
      refine q_nil ?_
      replace hE : Env a 28 [(0, _), (1, _), (5, _), (14, _), (27, _)] := hE.sel [0, 1, 5, 14, 27] rfl
      refine hK9 _ _ ?_
      refine hE.split 27 rfl (fun hb27 hE' => ?_) (fun hb27 hE' => ?_)
      · replace hE := hE'; clear hE'
        refine wp_cond_true (hE.eval rfl) ?_
        refine wp_seq_k (fun K10 hK10 => ?_)
        refine wp_plain [true] rfl rfl ?_
        refine s_assign hE rfl rfl ?_; clear hE a; intro a hE
        refine q_nil ?_
        refine hK10 _ _ ?_
        refine wp_ret ?_
        refine q_block_r ?_
        refine q_then_r ?_
        refine q_then_r ?_
        refine q_block_r ?_
        refine q_then_r ?_
        refine f_ret1 hE rfl rfl ?_
        refine ⟨?_, hM.nil⟩; rw [decide_eq_false (fun h => by subst h; simp at hb27)]
      · replace hE := hE'; clear hE'
        refine wp_cond_false (hE.eval rfl) ?_
        refine wp_skip ?_
        refine q_block_n ?_
        refine hK8 _ _ ?_
        refine wp_plain [true, true, true] rfl rfl ?_
        refine s_move hE rfl rfl ?_; clear hE a; intro a hE
        refine s_bin hE rfl rfl (bin_add (wrap_i64 (by omega) (by omega))) rfl ?_; clear hE a; intro a hE
        refine s_assign hE rfl rfl ?_; clear hE a; intro a hE
        refine q_nil ?_
        replace hE : Env a 28 [(0, _), (1, _), (5, _), (14, _), (27, _)] := hE.sel [0, 1, 5, 14, 27] rfl
        replace hE := hE.cast 5 rfl (show _ = Value.int .i64 ((i + 1 : Nat) : Int) from congrArg _ (by omega))
        refine ⟨i + 1, ⟨by omega, ?_, hE.sel [0, 1, 5] rfl, hM⟩, by omega⟩
        have e : pa.getD i [] = pb.getD i [] := by
          simp at hb27; exact hb27
        simp only [List.getD, List.getElem?_eq_getElem (show i < pa.length by omega), List.getElem?_eq_getElem (show i < pb.length by omega), Option.getD_some] at e
        rw [List.take_succ_eq_append_getElem (by omega), List.take_succ_eq_append_getElem (by omega), hpre, e]
    · replace hE := hE'; clear hE'
      replace hb14 := of_decide_eq_false hb14
      obtain rfl : i = pa.length := by omega
      refine wp_cond_false (hE.eval rfl) ?_
      refine wp_exit ?_
      refine q_then_e ?_
      refine q_then_e ?_
      refine q_block_x ?_
      refine hK4 _ _ ?_
      refine wp_seq_k (fun K8 hK8 => ?_)
      refine wp_plain [true] rfl rfl ?_
      refine s_assign hE rfl rfl ?_; clear hE a; intro a hE
      refine q_nil ?_
      refine hK8 _ _ ?_
      refine wp_ret ?_
      refine f_ret1 hE rfl rfl ?_
      refine ⟨?_, hM.nil⟩; rw [decide_eq_true (by rw [List.take_length, hb10, List.take_length] at hpre; exact hpre)]
theorem refParts_c (row : List UInt8) (v : Value) (c : Nat) (w : World) (hr : (rd v 1 row.length c (bv row)).holds w) (hlen : row.length ≤ 140737488355328 / 2) : Calls Try.prog 14 #[v] w fun e w' => ∃ pv vs bb, e = .returned (.tuple #[.int .u8 ((pParts row).1.toNat : Int), pv, .int .i64 (((pParts row).2.2 : Nat) : Int)]) ∧ (∀ x, x ∈ bb → w.heap.size ≤ x) ∧ Mem w [] w' [own pv 1 (pParts row).2.1.length vs, rdv bb vs (pParts row).2.1] := by
  have hM := Mem.startR1 hr rfl
  have hlc := rd_len hr
  refine f_enter 72 Try.func14 rfl rfl rfl ?_
  intro a hE
  replace hE : Env a 72 [(0, _)] := hE
  refine wp_seq_k (fun K1 hK1 => ?_)
  refine wp_plain [true, true, true] rfl rfl ?_
  refine s_assign hE rfl rfl ?_; clear hE a; intro a hE
  refine s_assign hE rfl rfl ?_; clear hE a; intro a hE
  refine s_assign hE rfl rfl ?_; clear hE a; intro a hE
  refine q_nil ?_
  refine hK1 _ _ ?_
  refine wp_seq_k (fun K2 hK2 => ?_)
  refine wp_seq_k (fun K3 hK3 => ?_)
  refine wp_plain [true, true, true, true, true, true, true, true, true] rfl rfl ?_
  refine s_move hE rfl rfl ?_; clear hE a; intro a hE
  refine s_len hE rfl Try.underlying23 (rd_slice (hM.get 0 rfl)) rfl ?_; clear hE a; intro a hE
  refine s_bin hE rfl rfl bin_lss rfl ?_; clear hE a; intro a hE
  refine s_move hE rfl rfl ?_; clear hE a; intro a hE
  refine hE.split 13 rfl (fun hb13 hE' => ?_) (fun hb13 hE' => ?_)
  · replace hE := hE'; clear hE'
    replace hb13 : row.length < 2 := by simp at hb13; omega
    refine g_no (b := true) hE rfl rfl rfl ?_; clear hE a; intro a hE
    refine g_no (b := true) hE rfl rfl rfl ?_; clear hE a; intro a hE
    refine g_no (b := true) hE rfl rfl rfl ?_; clear hE a; intro a hE
    refine g_no (b := true) hE rfl rfl rfl ?_; clear hE a; intro a hE
    refine s_pickt hE rfl rfl rfl ?_; clear hE a; intro a hE
    refine q_nil ?_
    replace hE : Env a 72 [(0, _), (2, _), (3, _), (4, _), (18, _)] := hE.sel [0, 2, 3, 4, 18] rfl
    refine hK3 _ _ ?_
    refine wp_cond_true (hE.eval rfl) ?_
    refine wp_seq_k (fun K4 hK4 => ?_)
    refine wp_plain [true, true, true] rfl rfl ?_
    refine s_assign hE rfl rfl ?_; clear hE a; intro a hE
    refine s_assign hE rfl rfl ?_; clear hE a; intro a hE
    refine s_assign hE rfl rfl ?_; clear hE a; intro a hE
    refine q_nil ?_
    refine hK4 _ _ ?_
    refine wp_ret ?_
    refine q_then_r ?_
    refine f_ret3 hE rfl rfl rfl rfl ?_
    rw [pParts_short hb13]; exact ⟨_, [], [], rfl, by simp, (hM.nil.rdvNil0).addNil 1⟩
  · replace hE := hE'; clear hE'
    replace hb13 : 2 ≤ row.length := by simp at hb13; omega
    refine g_yes hE rfl rfl ?_
    refine s_move hE rfl rfl ?_; clear hE a; intro a hE
    refine g_yes hE rfl rfl ?_
    refine s_indexRd (j := 1) hE rfl (hM.get 0 rfl) rfl slt23 (by first | rfl | omega) (by first | omega | decide) rfl ?_; clear hE a; intro a p15 hE hc15 hp15
    refine g_yes hE rfl rfl ?_
    rw [bv_elem (by omega)] at hc15
    refine s_loadAt1 hE rfl hc15 one5 (by intro X h; cases h) rfl ?_; clear hE a; intro a hE
    refine g_yes hE rfl rfl ?_
    refine s_bin hE rfl rfl bin_gtr rfl ?_; clear hE a; intro a hE
    refine s_pickf hE rfl rfl rfl ?_; clear hE a; intro a hE
    refine q_nil ?_
    replace hE : Env a 72 [(0, _), (2, _), (3, _), (4, _), (18, _)] := hE.sel [0, 2, 3, 4, 18] rfl
    refine hK3 _ _ ?_
    refine hE.split 18 rfl (fun hb18 hE' => ?_) (fun hb18 hE' => ?_)
    · replace hE := hE'; clear hE'
      replace hb18 : 16 < (row.getD 1 0).toNat := by have := of_decide_eq_true hb18; omega
      refine wp_cond_true (hE.eval rfl) ?_
      refine wp_seq_k (fun K4 hK4 => ?_)
      refine wp_plain [true, true, true] rfl rfl ?_
      refine s_assign hE rfl rfl ?_; clear hE a; intro a hE
      refine s_assign hE rfl rfl ?_; clear hE a; intro a hE
      refine s_assign hE rfl rfl ?_; clear hE a; intro a hE
      refine q_nil ?_
      refine hK4 _ _ ?_
      refine wp_ret ?_
      refine q_then_r ?_
      refine f_ret3 hE rfl rfl rfl rfl ?_
      rw [pParts_many hb13 hb18]; exact ⟨_, [], [], rfl, by simp, (hM.nil.rdvNil0).addNil 1⟩
    · replace hE := hE'; clear hE'
      replace hb18 : (row.getD 1 0).toNat ≤ 16 := by have := of_decide_eq_false hb18; omega
      refine wp_cond_false (hE.eval rfl) ?_
      refine wp_skip ?_
      refine hK2 _ _ ?_
      refine wp_seq_k (fun K4 hK4 => ?_)
      refine wp_plain [true] rfl rfl ?_
      refine s_assign hE rfl rfl ?_; clear hE a; intro a hE
      replace hM := (hM.rdvNil0).addNil 1
      refine q_nil ?_
      refine hK4 _ _ ?_
      refine wp_seq_k (fun K5 hK5 => ?_)
      refine wp_plain [true] rfl rfl ?_
      refine s_assign hE rfl rfl ?_; clear hE a; intro a hE
      refine q_nil ?_
      refine hK5 _ _ ?_
      refine wp_seq_k (fun K6 hK6 => ?_)
      refine wp_seq_k (fun K7 hK7 => ?_)
      refine wp_plain [true] rfl rfl ?_
      refine s_assign hE rfl rfl ?_; clear hE a; intro a hE
      refine q_nil ?_
      refine hK7 _ _ ?_
      refine wp_block ?_
      refine c_loop (fun (i : Nat) a w' => i ≤ (row.getD 1 0).toNat ∧ ∃ q ps pv vs bb, pAt (row.drop 2) false i = (ps, row.drop q, false) ∧ q ≤ row.length ∧ ps.length = i ∧ (∀ x, x ∈ bb → w.heap.size ≤ x) ∧ Env a 72 [(0, v), (5, pv), (6, .int .i64 (q : Nat)), (7, .int .i64 i)] ∧ Mem w [] w' [own pv 1 i vs, rdv bb vs ps, rd v 1 row.length c (bv row)]) (fun i => (row.getD 1 0).toNat - i) 0 ⟨Nat.zero_le _, 2, [], _, [], [], rfl, by omega, rfl, by simp, hE.sel [0, 5, 6, 7] rfl, hM⟩ ?_
      clear hE hM a; rintro i a w9 ⟨hi, q, ps, pv, vs, bb, hpa, hq, hpl, hbb, hE, hM⟩
      refine wp_seq_k (fun K8 hK8 => ?_)
      refine wp_seq_k (fun K9 hK9 => ?_)
      refine wp_plain [true, true, true, true, true, true] rfl rfl ?_
      refine s_move hE rfl rfl ?_; clear hE a; intro a hE
      refine s_move hE rfl rfl ?_; clear hE a; intro a hE
      refine s_indexRd (j := 1) hE rfl (hM.get 2 rfl) rfl slt23 (by first | rfl | omega) (by first | omega | decide) rfl ?_; clear hE a; intro a p21 hE hc21 hp21
      rw [bv_elem (by omega)] at hc21
      refine s_loadAt1 hE rfl hc21 one5 (by intro X h; cases h) rfl ?_; clear hE a; intro a hE
      refine s_conv hE rfl (cnv_int Try.underlying5 Try.underlying3 (wrap_i64 (by omega) (by have := (row.getD 1 0).toNat_lt; omega))) rfl ?_; clear hE a; intro a hE
      refine s_bin hE rfl rfl bin_lss rfl ?_; clear hE a; intro a hE
      refine q_nil ?_
      replace hE : Env a 72 [(0, _), (5, _), (6, _), (7, _), (24, _)] := hE.sel [0, 5, 6, 7, 24] rfl
      refine hK9 _ _ ?_
      refine hE.split 24 rfl (fun hb24 hE' => ?_) (fun hb24 hE' => ?_)
      · replace hE := hE'; clear hE'
        replace hb24 := of_decide_eq_true hb24
        refine wp_cond_true (hE.eval rfl) ?_
        refine wp_skip ?_
        refine hK8 _ _ ?_
        refine wp_seq_k (fun K10 hK10 => ?_)
        refine wp_block ?_
        refine wp_seq_k (fun K11 hK11 => ?_)
        refine wp_seq_k (fun K12 hK12 => ?_)
        refine wp_plain [true, true, true, true, true] rfl rfl ?_
        refine s_move hE rfl rfl ?_; clear hE a; intro a hE
        refine s_bin hE rfl rfl (bin_add (q := ((q + 4 : Nat) : Int)) (by rw [wrap_i64 (by omega) (by omega)]; omega)) rfl ?_; clear hE a; intro a hE
        refine s_move hE rfl rfl ?_; clear hE a; intro a hE
        refine s_len hE rfl Try.underlying23 (rd_slice (hM.get 2 rfl)) rfl ?_; clear hE a; intro a hE
        refine s_bin hE rfl rfl bin_gtr rfl ?_; clear hE a; intro a hE
        refine q_nil ?_
        replace hE : Env a 72 [(0, _), (5, _), (6, _), (7, _), (24, _), (31, _)] := hE.sel [0, 5, 6, 7, 24, 31] rfl
        refine hK12 _ _ ?_
        refine hE.split 31 rfl (fun hb31 hE' => ?_) (fun hb31 hE' => ?_)
        · replace hE := hE'; clear hE'
          replace hb31 := of_decide_eq_true hb31
          refine wp_cond_true (hE.eval rfl) ?_
          refine wp_seq_k (fun K13 hK13 => ?_)
          refine wp_plain [true, true, true] rfl rfl ?_
          refine s_assign hE rfl rfl ?_; clear hE a; intro a hE
          refine s_assign hE rfl rfl ?_; clear hE a; intro a hE
          refine s_assign hE rfl rfl ?_; clear hE a; intro a hE
          refine q_nil ?_
          refine hK13 _ _ ?_
          refine wp_ret ?_
          refine q_then_r ?_
          refine q_block_r ?_
          refine q_then_r ?_
          refine q_then_r ?_
          refine q_block_r ?_
          refine q_then_r ?_
          refine f_ret3 hE rfl rfl rfl rfl ?_
          rw [pParts_torn hb13 hb18 (i := i + 1) (by omega) (pAt_bad hpa (.inl (by simp; omega)))]; exact ⟨_, [], [], rfl, by simp, (hM.nil.rdvNil0).addNil 1⟩
        · replace hE := hE'; clear hE'
          replace hb31 := of_decide_eq_false hb31
          refine wp_cond_false (hE.eval rfl) ?_
          refine wp_skip ?_
          refine hK11 _ _ ?_
          refine wp_seq_k (fun K13 hK13 => ?_)
          refine wp_plain [true, true, true, true, true, false, true] rfl rfl ?_
          refine s_move hE rfl rfl ?_; clear hE a; intro a hE
          refine s_move hE rfl rfl ?_; clear hE a; intro a hE
          refine s_move hE rfl rfl ?_; clear hE a; intro a hE
          refine s_bin hE rfl rfl (bin_add (q := ((q + 4 : Nat) : Int)) (by rw [wrap_i64 (by omega) (by omega)]; omega)) rfl ?_; clear hE a; intro a hE
          refine s_slice (l := q) (h := q + 4) (mx' := c) hE rfl (hM.get 2 rfl) slt23 ⟨_, rfl⟩ ⟨_, rfl⟩ rfl (by simp) (by omega) (by omega) (by omega) (by omega) rfl ?_; clear hE a; intro a v36 hE hr36 hvb36
          replace hr36 := rd_mid (by omega) hr36
          replace hM := hM.addPart 2 rfl hr36 hvb36; clear hr36
          refine s_call hE rfl Try.call36 (refValue_c ((row.drop q).take (q + 4 - q)) _ _ _ (hM.get 0 rfl) (by simp; omega)) rfl ?_
          rintro e w10 ⟨rfl, hN⟩
          refine ⟨_, rfl, trivial, ?_⟩; clear hE a; intro a hE
          replace hM : Mem _ _ w10 [_, _, _, _] := hM.call0 hN trivial; clear hN
          rw [show q + 4 - q = 4 by omega] at hE
          obtain ⟨n, hn⟩ : ∃ n, n = val ((row.drop q).take 4) := ⟨_, rfl⟩
          rw [← hn] at hE
          have hn32 : n < 4294967296 := by
            have h1 := val_lt ((row.drop q).take 4)
            have h2 : 256 ^ ((row.drop q).take 4).length ≤ 256 ^ 4 := Nat.pow_le_pow_right (by omega) (by simp; omega)
            have h3 : (256 : Nat) ^ 4 = 4294967296 := rfl
            omega
          replace hM : Mem _ _ w10 [_, _, _] := hM.pick [1, 2, 3] rfl
          refine s_assign hE rfl rfl ?_; clear hE a; intro a hE
          refine q_nil ?_
          replace hE : Env a 72 [(0, _), (5, _), (6, _), (7, _), (8, _), (24, _), (31, _)] := hE.sel [0, 5, 6, 7, 8, 24, 31] rfl
          refine hK13 _ _ ?_
          refine wp_seq_k (fun K14 hK14 => ?_)
          refine wp_plain [true, true, true] rfl rfl ?_
          refine s_move hE rfl rfl ?_; clear hE a; intro a hE
          refine s_bin hE rfl rfl (bin_add (q := ((q + 4 : Nat) : Int)) (by rw [wrap_i64 (by omega) (by omega)]; omega)) rfl ?_; clear hE a; intro a hE
          refine s_assign hE rfl rfl ?_; clear hE a; intro a hE
          refine q_nil ?_
          replace hE : Env a 72 [(0, _), (5, _), (6, _), (7, _), (8, _), (24, _), (31, _)] := hE.sel [0, 5, 6, 7, 8, 24, 31] rfl
          refine hK14 _ _ ?_
          refine wp_seq_k (fun K15 hK15 => ?_)
          refine wp_seq_k (fun K16 hK16 => ?_)
          refine wp_plain [true, true, true, true, true, true, true] rfl rfl ?_
          refine s_move hE rfl rfl ?_; clear hE a; intro a hE
          refine s_move hE rfl rfl ?_; clear hE a; intro a hE
          refine s_len hE rfl Try.underlying23 (rd_slice (hM.get 2 rfl)) rfl ?_; clear hE a; intro a hE
          refine s_move hE rfl rfl ?_; clear hE a; intro a hE
          refine s_bin hE rfl rfl (bin_sub (q := ((row.length - (q + 4) : Nat) : Int)) (by rw [wrap_i64 (by omega) (by omega)]; omega)) rfl ?_; clear hE a; intro a hE
          refine s_conv hE rfl (cnv_int Try.underlying3 Try.underlying42 (wrap_u64 (by omega) (by omega))) rfl ?_; clear hE a; intro a hE
          refine s_bin hE rfl rfl bin_gtr rfl ?_; clear hE a; intro a hE
          refine q_nil ?_
          replace hE : Env a 72 [(0, _), (5, _), (6, _), (7, _), (8, _), (24, _), (31, _), (46, _)] := hE.sel [0, 5, 6, 7, 8, 24, 31, 46] rfl
          refine hK16 _ _ ?_
          refine hE.split 46 rfl (fun hb46 hE' => ?_) (fun hb46 hE' => ?_)
          · replace hE := hE'; clear hE'
            replace hb46 := of_decide_eq_true hb46
            refine wp_cond_true (hE.eval rfl) ?_
            refine wp_seq_k (fun K17 hK17 => ?_)
            refine wp_plain [true, true, true] rfl rfl ?_
            refine s_assign hE rfl rfl ?_; clear hE a; intro a hE
            refine s_assign hE rfl rfl ?_; clear hE a; intro a hE
            refine s_assign hE rfl rfl ?_; clear hE a; intro a hE
            refine q_nil ?_
            refine hK17 _ _ ?_
            refine wp_ret ?_
            refine q_then_r ?_
            refine q_block_r ?_
            refine q_then_r ?_
            refine q_then_r ?_
            refine q_block_r ?_
            refine q_then_r ?_
            refine f_ret3 hE rfl rfl rfl rfl ?_
            rw [pParts_torn hb13 hb18 (i := i + 1) (by omega) (pAt_bad hpa (.inr (by rw [← hn]; simp; omega)))]; exact ⟨_, [], [], rfl, by simp, (hM.nil.rdvNil0).addNil 1⟩
          · replace hE := hE'; clear hE'
            replace hb46 := of_decide_eq_false hb46
            refine wp_cond_false (hE.eval rfl) ?_
            refine wp_skip ?_
            refine hK15 _ _ ?_
            refine wp_seq_k (fun K17 hK17 => ?_)
            refine wp_plain [true] rfl rfl ?_
            refine s_assign hE rfl rfl ?_; clear hE a; intro a hE
            replace hM := hM.addNil 1
            refine q_nil ?_
            refine hK17 _ _ ?_
            refine wp_seq_k (fun K18 hK18 => ?_)
            refine wp_plain [true, true, true, true, true, true, true, true, false, true] rfl rfl ?_
            refine s_move hE rfl rfl ?_; clear hE a; intro a hE
            refine s_move hE rfl rfl ?_; clear hE a; intro a hE
            refine s_move hE rfl rfl ?_; clear hE a; intro a hE
            refine s_move hE rfl rfl ?_; clear hE a; intro a hE
            refine s_move hE rfl rfl ?_; clear hE a; intro a hE
            refine s_conv hE rfl (cnv_int Try.underlying42 Try.underlying3 (wrap_i64 (by omega) (by omega))) rfl ?_; clear hE a; intro a hE
            refine s_bin hE rfl rfl (bin_add (q := ((q + 4 + n : Nat) : Int)) (by rw [wrap_i64 (by omega) (by omega)]; omega)) rfl ?_; clear hE a; intro a hE
            refine s_slice (l := q + 4) (h := q + 4 + n) (mx' := c) hE rfl (hM.get 3 rfl) slt23 ⟨_, rfl⟩ ⟨_, rfl⟩ rfl (by simp) (by omega) (by omega) (by omega) (by omega) rfl ?_; clear hE a; intro a v54 hE hr54 hvb54
            replace hr54 := (fun h => by have h := rd_mid (l := q + 4) (h := q + 4 + n) (by omega) h; rw [show q + 4 + n - (q + 4) = n by omega] at h; exact h) hr54
            replace hM := hM.addPart 3 rfl hr54 hvb54; clear hr54
            replace hM : Mem _ _ w10 [_, _, _, _, _] := hM.pick [1, 0, 2, 3, 4] rfl
            have hy := hM.get 1 rfl
            refine s_append hE rfl rfl hM sl23 (Src.rd Try.underlying23 hy (bv_one _)) (len47 (by simp; omega)) (by simp; omega) (by intro X h; cases h) rfl ?_; clear hE a hy; intro a v55 w11 hE hM'
            clear hM; have hM := hM'; clear hM'
            replace hM := hM.ownEq (m' := ((row.drop (q + 4)).take n).length) (cs' := bv ((row.drop (q + 4)).take n)) (by simp) (by simp)
            refine s_assign hE rfl rfl ?_; clear hE a; intro a hE
            refine q_nil ?_
            replace hE : Env a 72 [(0, _), (5, _), (6, _), (7, _), (8, _), (9, _), (24, _), (31, _), (46, _)] := hE.sel [0, 5, 6, 7, 8, 9, 24, 31, 46] rfl
            refine hK18 _ _ ?_
            refine wp_seq_k (fun K19 hK19 => ?_)
            refine wp_plain [true, true, false, false, true] rfl rfl ?_
            refine s_move hE rfl rfl ?_; clear hE a; intro a hE
            refine s_move hE rfl rfl ?_; clear hE a; intro a hE
            have h57 := own_one (hM.get 0 rfl)
            refine s_buildSlice (xs := [.tmp 57]) ([v55]) hE hM sl22 rfl rfl rfl (by intro v hv; rw [List.mem_singleton.1 hv, h57.1]; rfl) (by simp [h57.1]) rfl rfl rfl ?_; clear hE a; intro a v58 w12 hE hM'
            clear hM; have hM := hM'; clear hM'
            replace hM : Mem _ _ w12 [_, _, _, _, _, _] := hM.pick [3, 0, 1, 2, 4, 5] rfl
            obtain ⟨cy, hy⟩ := own_rd (hM.get 1 rfl)
            refine s_append hE rfl rfl hM sl22 (Src.rd Try.underlying22 hy (one1 h57.2)) (len47 (by omega)) (by omega) (by intro X h; cases h) rfl ?_; clear hE a hy; intro a v59 w13 hE hM'
            clear hM; have hM := hM'; clear hM'
            replace hM : Mem _ _ w13 [_, _, _, _, _] := hM.pick [0, 2, 3, 4, 5] rfl
            replace hM : Mem _ _ w13 [_, _, _, _, _] := hM.pick [1, 3, 0, 2, 4] rfl
            have hnew := hM.new _ (List.mem_cons_self ..)
            obtain ⟨cp, hM'⟩ := hM.freeze
            clear hM; have hM := hM'.rdvGrow; clear hM'
            have hbb' : ∀ x, x ∈ rdB v55 cp ++ bb → w.heap.size ≤ x := fun x hx => (List.mem_append.1 hx).elim (fun h => (hnew x (rdB_sub h)).resolve_left (by simp)) (hbb x)
            refine s_assign hE rfl rfl ?_; clear hE a; intro a hE
            refine q_nil ?_
            replace hE : Env a 72 [(0, _), (5, _), (6, _), (7, _), (8, _), (9, _), (24, _), (31, _), (46, _)] := hE.sel [0, 5, 6, 7, 8, 9, 24, 31, 46] rfl
            refine hK19 _ _ ?_
            refine wp_plain [true, true, true, true, true] rfl rfl ?_
            refine s_move hE rfl rfl ?_; clear hE a; intro a hE
            refine s_move hE rfl rfl ?_; clear hE a; intro a hE
            refine s_conv hE rfl (cnv_int Try.underlying42 Try.underlying3 (wrap_i64 (by omega) (by omega))) rfl ?_; clear hE a; intro a hE
            refine s_bin hE rfl rfl (bin_add (q := ((q + 4 + n : Nat) : Int)) (by rw [wrap_i64 (by omega) (by omega)]; omega)) rfl ?_; clear hE a; intro a hE
            refine s_assign hE rfl rfl ?_; clear hE a; intro a hE
            refine q_nil ?_
            replace hE : Env a 72 [(0, _), (5, _), (6, _), (7, _), (8, _), (9, _), (24, _), (31, _), (46, _)] := hE.sel [0, 5, 6, 7, 8, 9, 24, 31, 46] rfl
            refine q_block_n ?_
            refine hK10 _ _ ?_
            refine wp_plain [true, true, true] rfl rfl ?_
            refine s_move hE rfl rfl ?_; clear hE a; intro a hE
            refine s_bin hE rfl rfl (bin_add (wrap_i64 (by omega) (by omega))) rfl ?_; clear hE a; intro a hE
            refine s_assign hE rfl rfl ?_; clear hE a; intro a hE
            refine q_nil ?_
            replace hE : Env a 72 [(0, _), (5, _), (6, _), (7, _), (8, _), (9, _), (24, _), (31, _), (46, _)] := hE.sel [0, 5, 6, 7, 8, 9, 24, 31, 46] rfl
            replace hE := hE.cast 7 rfl (show _ = Value.int .i64 ((i + 1 : Nat) : Int) from congrArg _ (by omega))
            replace hM : Mem _ _ w13 [_, _, _] := hM.pick [0, 1, 3] rfl
            replace hM : Mem _ _ w13 [_, _, _] := hM.pick [1, 0, 2] rfl
            have hpa' := pAt_ok hpa (by simp; omega) (by rw [← hn]; simp; omega)
            rw [← hn, List.drop_drop, List.drop_drop] at hpa'
            exact ⟨i + 1, ⟨by omega, q + 4 + n, _, _, _, _, hpa', by omega, by simp [hpl], hbb', hE.sel [0, 5, 6, 7] rfl, hM⟩, by omega⟩
      · replace hE := hE'; clear hE'
        replace hb24 := of_decide_eq_false hb24
        obtain rfl : i = (row.getD 1 0).toNat := by omega
        refine wp_cond_false (hE.eval rfl) ?_
        refine wp_exit ?_
        refine q_then_e ?_
        refine q_then_e ?_
        refine q_block_x ?_
        refine hK6 _ _ ?_
        refine wp_seq_k (fun K10 hK10 => ?_)
        refine wp_seq_k (fun K11 hK11 => ?_)
        refine wp_plain [true, true, true, true] rfl rfl ?_
        refine s_move hE rfl rfl ?_; clear hE a; intro a hE
        refine s_move hE rfl rfl ?_; clear hE a; intro a hE
        refine s_len hE rfl Try.underlying23 (rd_slice (hM.get 2 rfl)) rfl ?_; clear hE a; intro a hE
        refine s_bin hE rfl rfl bin_neq rfl ?_; clear hE a; intro a hE
        refine q_nil ?_
        replace hE : Env a 72 [(0, _), (5, _), (6, _), (7, _), (24, _), (67, _)] := hE.sel [0, 5, 6, 7, 24, 67] rfl
        refine hK11 _ _ ?_
        refine hE.split 67 rfl (fun hb67 hE' => ?_) (fun hb67 hE' => ?_)
        · replace hE := hE'; clear hE'
          replace hb67 : q ≠ row.length := by simp at hb67; omega
          refine wp_cond_true (hE.eval rfl) ?_
          refine wp_seq_k (fun K12 hK12 => ?_)
          refine wp_plain [true, true, true] rfl rfl ?_
          refine s_assign hE rfl rfl ?_; clear hE a; intro a hE
          refine s_assign hE rfl rfl ?_; clear hE a; intro a hE
          refine s_assign hE rfl rfl ?_; clear hE a; intro a hE
          refine q_nil ?_
          refine hK12 _ _ ?_
          refine wp_ret ?_
          refine q_then_r ?_
          refine f_ret3 hE rfl rfl rfl rfl ?_
          rw [pParts_end hb13 hb18 hpa, if_neg (by simp; omega)]; exact ⟨_, [], [], rfl, by simp, (hM.nil.rdvNil0).addNil 1⟩
        · replace hE := hE'; clear hE'
          replace hb67 : q = row.length := by simp at hb67; omega
          refine wp_cond_false (hE.eval rfl) ?_
          refine wp_skip ?_
          refine hK10 _ _ ?_
          refine wp_seq_k (fun K12 hK12 => ?_)
          refine wp_plain [true, true, true, true, true, true, true] rfl rfl ?_
          refine s_move hE rfl rfl ?_; clear hE a; intro a hE
          refine s_indexRd (j := 0) hE rfl (hM.get 2 rfl) rfl slt23 (by first | rfl | omega) (by first | omega | decide) rfl ?_; clear hE a; intro a p69 hE hc69 hp69
          rw [bv_elem (by omega)] at hc69
          refine s_loadAt1 hE rfl hc69 one5 (by intro X h; cases h) rfl ?_; clear hE a; intro a hE
          refine s_move hE rfl rfl ?_; clear hE a; intro a hE
          refine s_assign hE rfl rfl ?_; clear hE a; intro a hE
          refine s_assign hE rfl rfl ?_; clear hE a; intro a hE
          refine s_assign hE rfl rfl ?_; clear hE a; intro a hE
          refine q_nil ?_
          replace hE : Env a 72 [(0, _), (2, _), (3, _), (4, _), (5, _), (6, _), (7, _), (24, _), (67, _)] := hE.sel [0, 2, 3, 4, 5, 6, 7, 24, 67] rfl
          refine hK12 _ _ ?_
          refine wp_ret ?_
          refine f_ret3 hE rfl rfl rfl rfl ?_
          rw [pParts_end hb13 hb18 hpa, if_pos (by simp; omega)]
          refine ⟨_, vs, bb, rfl, hbb, ?_⟩
          show Mem _ _ _ [own _ 1 ps.length vs, _]
          rw [hpl]; exact hM.pick [0, 1] rfl
theorem bytesRow_c (dm : UInt8) (v1 v2 : Value) (vs : List Value) (bb : List Nat) (ps : List (List UInt8)) (c1 c2 : Nat) (b0 : List UInt8) (w : World) (h1 : (rd v1 1 ps.length c1 vs).holds w) (hp : (rdv bb vs ps).holds w) (h2 : (rd v2 1 b0.length c2 (bv b0)).holds w) (hl : ps.length ≤ 140737488355328) : Calls Try.prog 3 #[.int .u8 dm.toNat, v1, v2] w fun e w' => e = .returned (.bool true) ∧ Mem w [] w' [] := by
  have hM : Mem w [] w [rd v1 1 ps.length c1 vs, rdv bb vs ps, rd v2 1 b0.length c2 (bv b0)] := Mem.startR w (fun g hg => by
    simp only [List.mem_cons, List.not_mem_nil, or_false] at hg
    rcases hg with rfl | rfl | rfl
    · exact ⟨h1, rfl⟩
    · exact ⟨hp, rfl⟩
    · exact ⟨h2, rfl⟩)
  have hvl : vs.length = ps.length := hp.2.1
  refine f_enter 97 Try.func3 rfl rfl rfl ?_
  intro a hE
  replace hE : Env a 97 [(0, _), (1, _), (2, _)] := hE
  refine wp_seq_k (fun K1 hK1 => ?_)
  refine wp_plain [true] rfl rfl ?_
  refine s_assign hE rfl rfl ?_; clear hE a; intro a hE
  refine q_nil ?_
  refine hK1 _ _ ?_
  refine wp_seq_k (fun K2 hK2 => ?_)
  refine wp_plain [true, false, true] rfl rfl ?_
  refine s_move hE rfl rfl ?_; clear hE a; intro a hE
  refine s_call hE rfl Try.call10 (cut_c b0 v2 c2 _ (hM.get 2 rfl)) rfl ?_
  rintro e w1 ⟨vB, cB, rfl, hvb, hrB, hN⟩
  refine ⟨_, rfl, trivial, ?_⟩; clear hE a; intro a hE
  replace hM : Mem _ _ w1 [_, _, _] := hM.call0 hN trivial; clear hN
  replace hM := hM.addPart 2 rfl hrB hvb; clear hrB hvb
  have hB : (b0.take 5000).length ≤ 5000 := by simp; omega
  generalize b0.take 5000 = B at hM hB
  refine s_assign hE rfl rfl ?_; clear hE a; intro a hE
  refine q_nil ?_
  replace hE : Env a 97 [(0, _), (1, _), (2, _), (6, _)] := hE.sel [0, 1, 2, 6] rfl
  refine hK2 _ _ ?_
  refine wp_seq_k (fun K3 hK3 => ?_)
  refine wp_plain [true] rfl rfl ?_
  refine s_assign hE rfl rfl ?_; clear hE a; intro a hE
  replace hM := (hM.rdvNil (hM.get 2 rfl).1 (by intro b _ e he; simp only [List.mem_cons, List.not_mem_nil, or_false] at he; rcases he with rfl | rfl | rfl | rfl <;> exact List.not_mem_nil)).addNil 1
  refine q_nil ?_
  refine hK3 _ _ ?_
  refine wp_seq_k (fun K4 hK4 => ?_)
  refine wp_seq_k (fun K5 hK5 => ?_)
  refine wp_plain [true] rfl rfl ?_
  refine s_assign hE rfl rfl ?_; clear hE a; intro a hE
  refine q_nil ?_
  refine hK5 _ _ ?_
  refine wp_block ?_
  refine c_loop (fun (i : Nat) a w' => i ≤ ps.length ∧ i ≤ 20 ∧ ∃ pv us, Env a 97 [(0, .int .u8 dm.toNat), (1, v1), (2, vB), (7, pv), (8, .int .i64 i)] ∧ Mem w [] w' [own pv 1 i us, rdv bb us (clip 1000 ps i), rd vB 1 B.length cB (bv B), rd v1 1 ps.length c1 vs, rdv bb vs ps]) (fun i => ps.length - i) 0 ⟨Nat.zero_le _, by omega, _, _, hE.sel [0, 1, 2, 7, 8] rfl, hM.pick [0, 1, 2, 3, 4] rfl⟩ ?_
  clear hE hM a; rintro i a w9 ⟨hi, hi20, pv, us, hE, hM⟩
  refine wp_seq_k (fun K6 hK6 => ?_)
  refine wp_seq_k (fun K7 hK7 => ?_)
  refine wp_plain [true, true, true, true, true, true, true, true] rfl rfl ?_
  refine s_move hE rfl rfl ?_; clear hE a; intro a hE
  refine s_move hE rfl rfl ?_; clear hE a; intro a hE
  refine s_len hE rfl Try.underlying22 (rd_slice (hM.get 3 rfl)) rfl ?_; clear hE a; intro a hE
  refine s_bin hE rfl rfl bin_lss rfl ?_; clear hE a; intro a hE
  refine s_move hE rfl rfl ?_; clear hE a; intro a hE
  refine hE.split 25 rfl (fun hb25 hE' => ?_) (fun hb25 hE' => ?_)
  · replace hE := hE'; clear hE'
    replace hb25 := of_decide_eq_true hb25
    refine g_yes hE rfl rfl ?_
    refine s_move hE rfl rfl ?_; clear hE a; intro a hE
    refine g_yes hE rfl rfl ?_
    refine s_bin hE rfl rfl bin_lss rfl ?_; clear hE a; intro a hE
    refine s_pickt hE rfl rfl rfl ?_; clear hE a; intro a hE
    refine q_nil ?_
    replace hE : Env a 97 [(0, _), (1, _), (2, _), (7, _), (8, _), (28, _)] := hE.sel [0, 1, 2, 7, 8, 28] rfl
    refine hK7 _ _ ?_
    refine hE.split 28 rfl (fun hb28 hE' => ?_) (fun hb28 hE' => ?_)
    · replace hE := hE'; clear hE'
      replace hb28 := of_decide_eq_true hb28
      refine wp_cond_true (hE.eval rfl) ?_
      refine wp_skip ?_
      refine hK6 _ _ ?_
      refine wp_seq_k (fun K8 hK8 => ?_)
      refine wp_block ?_
      refine wp_drawnM hM (by kernel_rfl) (fun b => b ∈ valBlocks pv) [(0, true), (1, true), (2, true), (3, true), (4, true), (5, true), (6, true), (7, true), (8, true), (9, true), (10, true), (11, true), (12, false), (13, false), (14, true)] [(12, [(13, 12), (14, 12)]), (13, [(14, 13)])] (by kernel_rfl) rfl ?_
      intro w10 hM' hww10; clear hM; have hM := hM'; clear hM'
      refine s_move hE rfl rfl ?_; clear hE a; intro a hE
      refine s_move hE rfl rfl ?_; clear hE a; intro a hE
      refine s_move hE rfl rfl ?_; clear hE a; intro a hE
      refine s_indexRd (j := i) hE rfl (hM.get 3 rfl) rfl slt22 (by first | rfl | omega) (by first | omega | decide) rfl ?_; clear hE a; intro a p34 hE hc34 hp34
      rw [elem1 (by omega)] at hc34
      refine s_loadAt1 hE rfl hc34 one23 (by intro X h; cases h; intro b hb hx; exact hM.notX 0 3 rfl rfl (by decide) b hx (hp34 b hb)) rfl ?_; clear hE a; intro a hE
      refine s_move hE rfl rfl ?_; clear hE a; intro a hE
      refine s_move hE rfl rfl ?_; clear hE a; intro a hE
      refine s_indexRd (j := i) hE rfl (hM.get 3 rfl) rfl slt22 (by first | rfl | omega) (by first | omega | decide) rfl ?_; clear hE a; intro a p38 hE hc38 hp38
      rw [elem1 (by omega)] at hc38
      refine s_loadAt1 hE rfl hc38 one23 (by intro X h; cases h; intro b hb hx; exact hM.notX 0 3 rfl rfl (by decide) b hx (hp38 b hb)) rfl ?_; clear hE a; intro a hE
      refine s_len hE rfl Try.underlying23 (rd_slice (Exists.choose_spec (rdv_get (hM.get 4 rfl) (i := i) (by omega)))) rfl ?_; clear hE a; intro a hE
      refine s_min hE rfl rfl rfl ?_; clear hE a; intro a hE
      replace hE := hE.cast 41 rfl (show _ = Value.int .i64 ((min (ps.getD i []).length 1000 : Nat) : Int) from congrArg _ (by split <;> omega))
      obtain ⟨cg, hgb, hg⟩ := rdv_getB (hM.get 4 rfl) (i := i) (by omega)
      have hlg := rd_len hg
      refine s_slice (l := 0) (h := min (ps.getD i []).length 1000) (mx' := cg) hE rfl hg slt23 rfl ⟨_, rfl⟩ rfl (by simp) (by omega) (by omega) (by omega) (by omega) rfl ?_; clear hE a; intro a v42 hE hr42 hvb42
      replace hr42 := rd_cut rfl hr42
      have hb42 : ∀ x, x ∈ rdB v42 cg → x ∈ bb := fun x hx => hgb x (hvb42 x hx)
      replace hM := hM.addFrom 4 rfl hr42 hb42 rfl
      have h42 := rd_one (hM.get 0 rfl)
      refine s_buildSlice (xs := [.tmp 42]) ([v42]) hE hM sl22 rfl rfl rfl (by intro v hv; rw [List.mem_singleton.1 hv, h42.1]; rfl) (by simp [h42.1]) rfl rfl rfl ?_; clear hE a; intro a v43 w11 hE hM'
      clear hM; have hM := hM'; clear hM'
      replace hM : Mem _ _ w11 [_, _, _, _, _, _, _] := hM.pick [2, 0, 1, 3, 4, 5, 6] rfl
      obtain ⟨cy, hy⟩ := own_rd (hM.get 1 rfl)
      refine s_append hE rfl rfl hM sl22 (Src.rd Try.underlying22 hy (one1 h42.2)) (len47 (by omega)) (by omega) (by intro X h; cases h; simp) rfl ?_; clear hE a hy; intro a v44 w12 hE hM'
      clear hM; have hM := hM'; clear hM'
      replace hM : Mem _ _ w12 [_, _, _, _, _, _] := hM.pick [0, 2, 3, 4, 5, 6] rfl
      replace hM : Mem _ _ w12 [_, _, _, _, _, _] := hM.pick [1, 2, 0, 3, 4, 5] rfl
      replace hM := hM.rdvSnoc hb42
      refine s_assign hE rfl rfl ?_; clear hE a; intro a hE
      refine q_nil ?_
      replace hE : Env a 97 [(0, _), (1, _), (2, _), (7, _), (8, _), (28, _)] := hE.sel [0, 1, 2, 7, 8, 28] rfl
      refine q_block_n ?_
      refine hK8 _ _ ?_
      refine wp_plain [true, true, true] rfl rfl ?_
      refine s_move hE rfl rfl ?_; clear hE a; intro a hE
      refine s_bin hE rfl rfl (bin_add (wrap_i64 (by omega) (by omega))) rfl ?_; clear hE a; intro a hE
      refine s_assign hE rfl rfl ?_; clear hE a; intro a hE
      refine q_nil ?_
      replace hE : Env a 97 [(0, _), (1, _), (2, _), (7, _), (8, _), (28, _)] := hE.sel [0, 1, 2, 7, 8, 28] rfl
      replace hE := hE.cast 8 rfl (show _ = Value.int .i64 ((i + 1 : Nat) : Int) from congrArg _ (by omega))
      replace hM : Mem _ _ w12 [_, _, _, _, _] := hM.pick [1, 0, 2, 3, 4] rfl
      refine ⟨i + 1, ⟨by omega, by omega, _, us ++ [v42], hE.sel [0, 1, 2, 7, 8] rfl, ?_⟩, by omega⟩
      rw [clip_succ (by omega)]; exact hM
    · replace hE := hE'; clear hE'
      replace hb28 := of_decide_eq_false hb28
      have hqb : rowBytes (clip 1000 ps i) ≤ 2 + 20 * (1000 + 4) := clip_bytes hi20
      have hql : (clip 1000 ps i).length = i := clip_length hi
      generalize clip 1000 ps i = qs at hM hqb hql
      have hpl : (pParts B).2.1.length ≤ 140737488355328 := by have := pParts_len B; omega
      refine wp_cond_false (hE.eval rfl) ?_
      refine wp_exit ?_
      refine q_then_e ?_
      refine q_then_e ?_
      refine q_block_x ?_
      refine hK4 _ _ ?_
      refine wp_seq_k (fun K8 hK8 => ?_)
      refine wp_plain [true, true, false, true, true, true, true, true] rfl rfl ?_
      refine s_move hE rfl rfl ?_; clear hE a; intro a hE
      refine s_move hE rfl rfl ?_; clear hE a; intro a hE
      obtain ⟨csr48, hsr48⟩ := own_rd (hM.get 0 rfl)
      refine s_call hE rfl Try.call11 (row_c dm bb qs _ us _ _ (by rw [hql]; exact hsr48) (hM.get 1 rfl) (Nat.le_trans hqb (by decide))) rfl ?_
      rintro e w10 ⟨v48, rfl, hN⟩
      refine ⟨_, rfl, trivial, ?_⟩; clear hE a; intro a hE
      replace hM : Mem _ _ w10 [_, _, _, _, _, _] := hM.call0 hN ⟨rfl, trivial⟩; clear hN
      refine s_move hE rfl rfl ?_; clear hE a; intro a hE
      refine s_extract hE rfl rfl rfl ?_; clear hE a; intro a hE
      refine s_extract hE rfl rfl rfl ?_; clear hE a; intro a hE
      refine s_assign hE rfl rfl ?_; clear hE a; intro a hE
      refine s_assign hE rfl rfl ?_; clear hE a; intro a hE
      refine q_nil ?_
      replace hE : Env a 97 [(0, _), (1, _), (2, _), (7, _), (8, _), (9, _), (10, _), (28, _)] := hE.sel [0, 1, 2, 7, 8, 9, 10, 28] rfl
      refine hK8 _ _ ?_
      refine wp_seq_k (fun K9 hK9 => ?_)
      refine wp_plain [true, true, false, true, true, true, true, true] rfl rfl ?_
      refine s_move hE rfl rfl ?_; clear hE a; intro a hE
      refine s_move hE rfl rfl ?_; clear hE a; intro a hE
      obtain ⟨csr54, hsr54⟩ := own_rd (hM.get 1 rfl)
      refine s_call hE rfl Try.call12 (refRow_c dm bb qs _ us _ _ (by rw [hql]; exact hsr54) (hM.get 2 rfl) (Nat.le_trans hqb (by decide))) rfl ?_
      rintro e w11 ⟨v54, rfl, hN⟩
      refine ⟨_, rfl, trivial, ?_⟩; clear hE a; intro a hE
      replace hM : Mem _ _ w11 [_, _, _, _, _, _, _] := hM.call0 hN ⟨rfl, trivial⟩; clear hN
      refine s_move hE rfl rfl ?_; clear hE a; intro a hE
      refine s_extract hE rfl rfl rfl ?_; clear hE a; intro a hE
      refine s_extract hE rfl rfl rfl ?_; clear hE a; intro a hE
      refine s_assign hE rfl rfl ?_; clear hE a; intro a hE
      refine s_assign hE rfl rfl ?_; clear hE a; intro a hE
      refine q_nil ?_
      replace hE : Env a 97 [(0, _), (1, _), (2, _), (7, _), (8, _), (9, _), (10, _), (11, _), (12, _), (28, _)] := hE.sel [0, 1, 2, 7, 8, 9, 10, 11, 12, 28] rfl
      refine hK9 _ _ ?_
      refine wp_seq_k (fun K10 hK10 => ?_)
      refine wp_plain [true, false, true, true, true, true, true, true, true] rfl rfl ?_
      refine s_move hE rfl rfl ?_; clear hE a; intro a hE
      refine s_call hE rfl Try.call13 (parts_c B _ _ _ (hM.get 4 rfl) (by omega)) rfl ?_
      rintro e w12 ⟨pv59, vs59, bb59, rfl, hbb, hN⟩
      refine ⟨_, rfl, trivial, ?_⟩; clear hE a; intro a hE
      replace hM : Mem _ _ w12 [_, _, _, _, _, _, _, _, _] := hM.callN hN (by intro e he x hx; rcases List.mem_cons.1 he with rfl | he; exact absurd hx List.not_mem_nil; rw [List.mem_singleton.1 he] at hx; exact hbb x hx); clear hN
      clear hbb
      refine s_move hE rfl rfl ?_; clear hE a; intro a hE
      refine s_extract hE rfl rfl rfl ?_; clear hE a; intro a hE
      refine s_extract hE rfl rfl rfl ?_; clear hE a; intro a hE
      refine s_extract hE rfl rfl rfl ?_; clear hE a; intro a hE
      refine s_assign hE rfl rfl ?_; clear hE a; intro a hE
      refine s_assign hE rfl rfl ?_; clear hE a; intro a hE
      refine s_assign hE rfl rfl ?_; clear hE a; intro a hE
      refine q_nil ?_
      replace hE : Env a 97 [(0, _), (1, _), (2, _), (7, _), (8, _), (9, _), (10, _), (11, _), (12, _), (13, _), (14, _), (15, _), (28, _)] := hE.sel [0, 1, 2, 7, 8, 9, 10, 11, 12, 13, 14, 15, 28] rfl
      refine hK10 _ _ ?_
      refine wp_seq_k (fun K11 hK11 => ?_)
      refine wp_plain [true, false, true, true, true, true, true, true, true] rfl rfl ?_
      refine s_move hE rfl rfl ?_; clear hE a; intro a hE
      refine s_call hE rfl Try.call14 (refParts_c B _ _ _ (hM.get 6 rfl) (by omega)) rfl ?_
      rintro e w13 ⟨pv65, vs65, bb65, rfl, hbb, hN⟩
      refine ⟨_, rfl, trivial, ?_⟩; clear hE a; intro a hE
      replace hM : Mem _ _ w13 [_, _, _, _, _, _, _, _, _, _, _] := hM.callN hN (by intro e he x hx; rcases List.mem_cons.1 he with rfl | he; exact absurd hx List.not_mem_nil; rw [List.mem_singleton.1 he] at hx; exact hbb x hx); clear hN
      clear hbb
      refine s_move hE rfl rfl ?_; clear hE a; intro a hE
      refine s_extract hE rfl rfl rfl ?_; clear hE a; intro a hE
      refine s_extract hE rfl rfl rfl ?_; clear hE a; intro a hE
      refine s_extract hE rfl rfl rfl ?_; clear hE a; intro a hE
      refine s_assign hE rfl rfl ?_; clear hE a; intro a hE
      refine s_assign hE rfl rfl ?_; clear hE a; intro a hE
      refine s_assign hE rfl rfl ?_; clear hE a; intro a hE
      refine q_nil ?_
      replace hE : Env a 97 [(0, _), (1, _), (2, _), (7, _), (8, _), (9, _), (10, _), (11, _), (12, _), (13, _), (14, _), (15, _), (16, _), (17, _), (18, _), (28, _)] := hE.sel [0, 1, 2, 7, 8, 9, 10, 11, 12, 13, 14, 15, 16, 17, 18, 28] rfl
      refine hK11 _ _ ?_
      refine wp_seq_k (fun K12 hK12 => ?_)
      refine wp_plain [true, true, true, true, true, true, true, true, true, true, true, true, true, true, true, true, true, true, false, true, true, true, true, true, true, true, false, true, true] rfl rfl ?_
      refine s_move hE rfl rfl ?_; clear hE a; intro a hE
      obtain ⟨cs70, hs70⟩ := own_rd (hM.get 5 rfl)
      refine s_toStr hE rfl Try.underlying23 Try.underlying5 Try.underlying9 hs70 (by intro X h; cases h) rfl ?_; clear hE a; intro a hE
      refine s_move hE rfl rfl ?_; clear hE a; intro a hE
      obtain ⟨cs72, hs72⟩ := own_rd (hM.get 4 rfl)
      refine s_toStr hE rfl Try.underlying23 Try.underlying5 Try.underlying9 hs72 (by intro X h; cases h) rfl ?_; clear hE a; intro a hE
      refine s_bin hE rfl rfl bins_str.1 rfl ?_; clear hE a; intro a hE
      refine s_move hE rfl rfl ?_; clear hE a; intro a hE
      replace hE := hE.cast 74 rfl (show _ = Value.bool true from (congrArg Value.bool (by first | exact decide_eq_true rfl | rfl)))
      refine g_yes hE rfl rfl ?_
      refine s_move hE rfl rfl ?_; clear hE a; intro a hE
      refine g_yes hE rfl rfl ?_
      refine s_move hE rfl rfl ?_; clear hE a; intro a hE
      refine g_yes hE rfl rfl ?_
      refine s_bin hE rfl rfl bin_eql rfl ?_; clear hE a; intro a hE
      refine s_pickt hE rfl rfl rfl ?_; clear hE a; intro a hE
      refine s_move hE rfl rfl ?_; clear hE a; intro a hE
      replace hE := hE.cast 79 rfl (show _ = Value.bool true from (congrArg Value.bool (by first | exact decide_eq_true rfl | rfl)))
      refine g_yes hE rfl rfl ?_
      refine s_move hE rfl rfl ?_; clear hE a; intro a hE
      refine g_yes hE rfl rfl ?_
      refine s_move hE rfl rfl ?_; clear hE a; intro a hE
      refine g_yes hE rfl rfl ?_
      refine s_bin hE rfl rfl bin_eql rfl ?_; clear hE a; intro a hE
      refine s_pickt hE rfl rfl rfl ?_; clear hE a; intro a hE
      refine s_move hE rfl rfl ?_; clear hE a; intro a hE
      replace hE := hE.cast 84 rfl (show _ = Value.bool true from (congrArg Value.bool (by first | exact decide_eq_true rfl | rfl)))
      refine g_yes hE rfl rfl ?_
      refine s_move hE rfl rfl ?_; clear hE a; intro a hE
      refine g_yes hE rfl rfl ?_
      refine s_move hE rfl rfl ?_; clear hE a; intro a hE
      refine g_yes hE rfl rfl ?_
      obtain ⟨csx, hsx⟩ := own_rd (hM.get 2 rfl)
      obtain ⟨csy, hsy⟩ := own_rd (hM.get 0 rfl)
      refine s_call hE rfl Try.call15 (refSame_c _ _ (pParts B).2.1 (pParts B).2.1 _ _ _ _ _ _ _ hsx (hM.get 3 rfl) hsy (hM.get 1 rfl) hpl) rfl ?_
      rintro e w14 ⟨rfl, hN⟩
      refine ⟨_, rfl, trivial, ?_⟩; clear hE a; intro a hE
      replace hM : Mem _ _ w14 [_, _, _, _, _, _, _, _, _, _, _] := hM.call0 hN trivial; clear hN
      refine s_pickt hE rfl rfl rfl ?_; clear hE a; intro a hE
      refine s_move hE rfl rfl ?_; clear hE a; intro a hE
      replace hE := hE.cast 89 rfl (show _ = Value.bool true from (congrArg Value.bool (by first | exact decide_eq_true rfl | rfl)))
      refine g_yes hE rfl rfl ?_
      refine s_move hE rfl rfl ?_; clear hE a; intro a hE
      refine g_yes hE rfl rfl ?_
      refine s_move hE rfl rfl ?_; clear hE a; intro a hE
      refine g_yes hE rfl rfl ?_
      refine s_bin hE rfl rfl bin_eql rfl ?_; clear hE a; intro a hE
      refine s_pickt hE rfl rfl rfl ?_; clear hE a; intro a hE
      refine s_move hE rfl rfl ?_; clear hE a; intro a hE
      replace hE := hE.cast 94 rfl (show _ = Value.bool true from (congrArg Value.bool (by first | exact decide_eq_true rfl | rfl)))
      refine g_yes hE rfl rfl ?_
      refine s_call hE rfl Try.call16 (works_c _) rfl ?_
      rintro e w15 ⟨rfl, hN⟩
      refine ⟨_, rfl, trivial, ?_⟩; clear hE a; intro a hE
      replace hM : Mem _ _ w15 [_, _, _, _, _, _, _, _, _, _, _] := hM.call0 hN trivial; clear hN
      refine s_pickt hE rfl rfl rfl ?_; clear hE a; intro a hE
      refine s_assign hE rfl rfl ?_; clear hE a; intro a hE
      refine q_nil ?_
      replace hE : Env a 97 [(0, _), (1, _), (2, _), (6, _), (7, _), (8, _), (28, _)] := hE.sel [0, 1, 2, 6, 7, 8, 28] rfl
      refine hK12 _ _ ?_
      refine wp_ret ?_
      refine f_ret1 hE rfl rfl ?_
      exact ⟨rfl, hM.nil⟩
  · replace hE := hE'; clear hE'
    replace hb25 := of_decide_eq_false hb25
    have hqb : rowBytes (clip 1000 ps i) ≤ 2 + 20 * (1000 + 4) := clip_bytes hi20
    have hql : (clip 1000 ps i).length = i := clip_length hi
    generalize clip 1000 ps i = qs at hM hqb hql
    have hpl : (pParts B).2.1.length ≤ 140737488355328 := by have := pParts_len B; omega
    refine g_no (b := false) hE rfl rfl rfl ?_; clear hE a; intro a hE
    refine g_no (b := false) hE rfl rfl rfl ?_; clear hE a; intro a hE
    refine s_pickf hE rfl rfl rfl ?_; clear hE a; intro a hE
    refine q_nil ?_
    replace hE : Env a 97 [(0, _), (1, _), (2, _), (7, _), (8, _), (28, _)] := hE.sel [0, 1, 2, 7, 8, 28] rfl
    refine hK7 _ _ ?_
    refine wp_cond_false (hE.eval rfl) ?_
    refine wp_exit ?_
    refine q_then_e ?_
    refine q_then_e ?_
    refine q_block_x ?_
    refine hK4 _ _ ?_
    refine wp_seq_k (fun K8 hK8 => ?_)
    refine wp_plain [true, true, false, true, true, true, true, true] rfl rfl ?_
    refine s_move hE rfl rfl ?_; clear hE a; intro a hE
    refine s_move hE rfl rfl ?_; clear hE a; intro a hE
    obtain ⟨csr48, hsr48⟩ := own_rd (hM.get 0 rfl)
    refine s_call hE rfl Try.call11 (row_c dm bb qs _ us _ _ (by rw [hql]; exact hsr48) (hM.get 1 rfl) (Nat.le_trans hqb (by decide))) rfl ?_
    rintro e w10 ⟨v48, rfl, hN⟩
    refine ⟨_, rfl, trivial, ?_⟩; clear hE a; intro a hE
    replace hM : Mem _ _ w10 [_, _, _, _, _, _] := hM.call0 hN ⟨rfl, trivial⟩; clear hN
    refine s_move hE rfl rfl ?_; clear hE a; intro a hE
    refine s_extract hE rfl rfl rfl ?_; clear hE a; intro a hE
    refine s_extract hE rfl rfl rfl ?_; clear hE a; intro a hE
    refine s_assign hE rfl rfl ?_; clear hE a; intro a hE
    refine s_assign hE rfl rfl ?_; clear hE a; intro a hE
    refine q_nil ?_
    replace hE : Env a 97 [(0, _), (1, _), (2, _), (7, _), (8, _), (9, _), (10, _), (28, _)] := hE.sel [0, 1, 2, 7, 8, 9, 10, 28] rfl
    refine hK8 _ _ ?_
    refine wp_seq_k (fun K9 hK9 => ?_)
    refine wp_plain [true, true, false, true, true, true, true, true] rfl rfl ?_
    refine s_move hE rfl rfl ?_; clear hE a; intro a hE
    refine s_move hE rfl rfl ?_; clear hE a; intro a hE
    obtain ⟨csr54, hsr54⟩ := own_rd (hM.get 1 rfl)
    refine s_call hE rfl Try.call12 (refRow_c dm bb qs _ us _ _ (by rw [hql]; exact hsr54) (hM.get 2 rfl) (Nat.le_trans hqb (by decide))) rfl ?_
    rintro e w11 ⟨v54, rfl, hN⟩
    refine ⟨_, rfl, trivial, ?_⟩; clear hE a; intro a hE
    replace hM : Mem _ _ w11 [_, _, _, _, _, _, _] := hM.call0 hN ⟨rfl, trivial⟩; clear hN
    refine s_move hE rfl rfl ?_; clear hE a; intro a hE
    refine s_extract hE rfl rfl rfl ?_; clear hE a; intro a hE
    refine s_extract hE rfl rfl rfl ?_; clear hE a; intro a hE
    refine s_assign hE rfl rfl ?_; clear hE a; intro a hE
    refine s_assign hE rfl rfl ?_; clear hE a; intro a hE
    refine q_nil ?_
    replace hE : Env a 97 [(0, _), (1, _), (2, _), (7, _), (8, _), (9, _), (10, _), (11, _), (12, _), (28, _)] := hE.sel [0, 1, 2, 7, 8, 9, 10, 11, 12, 28] rfl
    refine hK9 _ _ ?_
    refine wp_seq_k (fun K10 hK10 => ?_)
    refine wp_plain [true, false, true, true, true, true, true, true, true] rfl rfl ?_
    refine s_move hE rfl rfl ?_; clear hE a; intro a hE
    refine s_call hE rfl Try.call13 (parts_c B _ _ _ (hM.get 4 rfl) (by omega)) rfl ?_
    rintro e w12 ⟨pv59, vs59, bb59, rfl, hbb, hN⟩
    refine ⟨_, rfl, trivial, ?_⟩; clear hE a; intro a hE
    replace hM : Mem _ _ w12 [_, _, _, _, _, _, _, _, _] := hM.callN hN (by intro e he x hx; rcases List.mem_cons.1 he with rfl | he; exact absurd hx List.not_mem_nil; rw [List.mem_singleton.1 he] at hx; exact hbb x hx); clear hN
    clear hbb
    refine s_move hE rfl rfl ?_; clear hE a; intro a hE
    refine s_extract hE rfl rfl rfl ?_; clear hE a; intro a hE
    refine s_extract hE rfl rfl rfl ?_; clear hE a; intro a hE
    refine s_extract hE rfl rfl rfl ?_; clear hE a; intro a hE
    refine s_assign hE rfl rfl ?_; clear hE a; intro a hE
    refine s_assign hE rfl rfl ?_; clear hE a; intro a hE
    refine s_assign hE rfl rfl ?_; clear hE a; intro a hE
    refine q_nil ?_
    replace hE : Env a 97 [(0, _), (1, _), (2, _), (7, _), (8, _), (9, _), (10, _), (11, _), (12, _), (13, _), (14, _), (15, _), (28, _)] := hE.sel [0, 1, 2, 7, 8, 9, 10, 11, 12, 13, 14, 15, 28] rfl
    refine hK10 _ _ ?_
    refine wp_seq_k (fun K11 hK11 => ?_)
    refine wp_plain [true, false, true, true, true, true, true, true, true] rfl rfl ?_
    refine s_move hE rfl rfl ?_; clear hE a; intro a hE
    refine s_call hE rfl Try.call14 (refParts_c B _ _ _ (hM.get 6 rfl) (by omega)) rfl ?_
    rintro e w13 ⟨pv65, vs65, bb65, rfl, hbb, hN⟩
    refine ⟨_, rfl, trivial, ?_⟩; clear hE a; intro a hE
    replace hM : Mem _ _ w13 [_, _, _, _, _, _, _, _, _, _, _] := hM.callN hN (by intro e he x hx; rcases List.mem_cons.1 he with rfl | he; exact absurd hx List.not_mem_nil; rw [List.mem_singleton.1 he] at hx; exact hbb x hx); clear hN
    clear hbb
    refine s_move hE rfl rfl ?_; clear hE a; intro a hE
    refine s_extract hE rfl rfl rfl ?_; clear hE a; intro a hE
    refine s_extract hE rfl rfl rfl ?_; clear hE a; intro a hE
    refine s_extract hE rfl rfl rfl ?_; clear hE a; intro a hE
    refine s_assign hE rfl rfl ?_; clear hE a; intro a hE
    refine s_assign hE rfl rfl ?_; clear hE a; intro a hE
    refine s_assign hE rfl rfl ?_; clear hE a; intro a hE
    refine q_nil ?_
    replace hE : Env a 97 [(0, _), (1, _), (2, _), (7, _), (8, _), (9, _), (10, _), (11, _), (12, _), (13, _), (14, _), (15, _), (16, _), (17, _), (18, _), (28, _)] := hE.sel [0, 1, 2, 7, 8, 9, 10, 11, 12, 13, 14, 15, 16, 17, 18, 28] rfl
    refine hK11 _ _ ?_
    refine wp_seq_k (fun K12 hK12 => ?_)
    refine wp_plain [true, true, true, true, true, true, true, true, true, true, true, true, true, true, true, true, true, true, false, true, true, true, true, true, true, true, false, true, true] rfl rfl ?_
    refine s_move hE rfl rfl ?_; clear hE a; intro a hE
    obtain ⟨cs70, hs70⟩ := own_rd (hM.get 5 rfl)
    refine s_toStr hE rfl Try.underlying23 Try.underlying5 Try.underlying9 hs70 (by intro X h; cases h) rfl ?_; clear hE a; intro a hE
    refine s_move hE rfl rfl ?_; clear hE a; intro a hE
    obtain ⟨cs72, hs72⟩ := own_rd (hM.get 4 rfl)
    refine s_toStr hE rfl Try.underlying23 Try.underlying5 Try.underlying9 hs72 (by intro X h; cases h) rfl ?_; clear hE a; intro a hE
    refine s_bin hE rfl rfl bins_str.1 rfl ?_; clear hE a; intro a hE
    refine s_move hE rfl rfl ?_; clear hE a; intro a hE
    replace hE := hE.cast 74 rfl (show _ = Value.bool true from (congrArg Value.bool (by first | exact decide_eq_true rfl | rfl)))
    refine g_yes hE rfl rfl ?_
    refine s_move hE rfl rfl ?_; clear hE a; intro a hE
    refine g_yes hE rfl rfl ?_
    refine s_move hE rfl rfl ?_; clear hE a; intro a hE
    refine g_yes hE rfl rfl ?_
    refine s_bin hE rfl rfl bin_eql rfl ?_; clear hE a; intro a hE
    refine s_pickt hE rfl rfl rfl ?_; clear hE a; intro a hE
    refine s_move hE rfl rfl ?_; clear hE a; intro a hE
    replace hE := hE.cast 79 rfl (show _ = Value.bool true from (congrArg Value.bool (by first | exact decide_eq_true rfl | rfl)))
    refine g_yes hE rfl rfl ?_
    refine s_move hE rfl rfl ?_; clear hE a; intro a hE
    refine g_yes hE rfl rfl ?_
    refine s_move hE rfl rfl ?_; clear hE a; intro a hE
    refine g_yes hE rfl rfl ?_
    refine s_bin hE rfl rfl bin_eql rfl ?_; clear hE a; intro a hE
    refine s_pickt hE rfl rfl rfl ?_; clear hE a; intro a hE
    refine s_move hE rfl rfl ?_; clear hE a; intro a hE
    replace hE := hE.cast 84 rfl (show _ = Value.bool true from (congrArg Value.bool (by first | exact decide_eq_true rfl | rfl)))
    refine g_yes hE rfl rfl ?_
    refine s_move hE rfl rfl ?_; clear hE a; intro a hE
    refine g_yes hE rfl rfl ?_
    refine s_move hE rfl rfl ?_; clear hE a; intro a hE
    refine g_yes hE rfl rfl ?_
    obtain ⟨csx, hsx⟩ := own_rd (hM.get 2 rfl)
    obtain ⟨csy, hsy⟩ := own_rd (hM.get 0 rfl)
    refine s_call hE rfl Try.call15 (refSame_c _ _ (pParts B).2.1 (pParts B).2.1 _ _ _ _ _ _ _ hsx (hM.get 3 rfl) hsy (hM.get 1 rfl) hpl) rfl ?_
    rintro e w14 ⟨rfl, hN⟩
    refine ⟨_, rfl, trivial, ?_⟩; clear hE a; intro a hE
    replace hM : Mem _ _ w14 [_, _, _, _, _, _, _, _, _, _, _] := hM.call0 hN trivial; clear hN
    refine s_pickt hE rfl rfl rfl ?_; clear hE a; intro a hE
    refine s_move hE rfl rfl ?_; clear hE a; intro a hE
    replace hE := hE.cast 89 rfl (show _ = Value.bool true from (congrArg Value.bool (by first | exact decide_eq_true rfl | rfl)))
    refine g_yes hE rfl rfl ?_
    refine s_move hE rfl rfl ?_; clear hE a; intro a hE
    refine g_yes hE rfl rfl ?_
    refine s_move hE rfl rfl ?_; clear hE a; intro a hE
    refine g_yes hE rfl rfl ?_
    refine s_bin hE rfl rfl bin_eql rfl ?_; clear hE a; intro a hE
    refine s_pickt hE rfl rfl rfl ?_; clear hE a; intro a hE
    refine s_move hE rfl rfl ?_; clear hE a; intro a hE
    replace hE := hE.cast 94 rfl (show _ = Value.bool true from (congrArg Value.bool (by first | exact decide_eq_true rfl | rfl)))
    refine g_yes hE rfl rfl ?_
    refine s_call hE rfl Try.call16 (works_c _) rfl ?_
    rintro e w15 ⟨rfl, hN⟩
    refine ⟨_, rfl, trivial, ?_⟩; clear hE a; intro a hE
    replace hM : Mem _ _ w15 [_, _, _, _, _, _, _, _, _, _, _] := hM.call0 hN trivial; clear hN
    refine s_pickt hE rfl rfl rfl ?_; clear hE a; intro a hE
    refine s_assign hE rfl rfl ?_; clear hE a; intro a hE
    refine q_nil ?_
    replace hE : Env a 97 [(0, _), (1, _), (2, _), (6, _), (7, _), (8, _), (28, _)] := hE.sel [0, 1, 2, 6, 7, 8, 28] rfl
    refine hK12 _ _ ?_
    refine wp_ret ?_
    refine f_ret1 hE rfl rfl ?_
    exact ⟨rfl, hM.nil⟩
set_option maxRecDepth 100000 in
theorem bytesRow_lifted (os : Os) (started : os.Started) (H : Type) (enc : TypeId × Value → H) :
    ReturnsInHanded {} Try.checked os 3 .any (Rows.bytesRowSpec.pre6 enc Try.prog Try.f3 Rows.bytesRowRow.domain false) (Rows.bytesRowSpec.post enc Try.prog Try.f3 false true false false) := by
  refine law_lifted (C := Try.checked) (fn := Try.f3) (by kernel_rfl) started (by kernel_rfl) Try.func3 rfl (fun ds hl => ?_) rfl Try.underlying4 (by kernel_rfl) (of_decide_eq_true (by kernel_rfl)) (ChangeSpec.witness6 (enc := enc) (C := Try.checked) false ⟨#[], #[.int .u8 0, .slice none 0 0, .slice none 0 0], []⟩ 8 (by kernel_rfl) (by kernel_rfl) (by kernel_rfl) (by kernel_rfl)) ?_
  · rw [Try.params3] at hl
    match ds, hl with
    | [_, _, _], _ => rfl
  · intro W base args ds ps hval hA hw
    rw [Try.params3] at hA hval hw
    obtain ⟨v0, vs0, d0, ds0, p0, q0, hargs, rfl, rfl, h0, r0⟩ := trodAll_cons hA
    obtain ⟨v1, vs1, d1, ds1, p1, q1, rfl, rfl, rfl, h1, r1⟩ := trodAll_cons r0
    obtain ⟨v2, vs2, d2, ds2, p2, q2, rfl, rfl, rfl, h2, r2⟩ := trodAll_cons r1
    obtain ⟨rfl, rfl, rfl⟩ := trodAll_nil r2
    obtain rfl : args = #[v0, v1, v2] := by cases args; simp_all
    obtain ⟨z, rfl, hz1, hz2⟩ := arg_int Try.underlying5 (hval 0 5 v0 rfl rfl) h0 (fun m hm => hw m (by simp only [DataW.weightsEach, List.mem_append]; exact .inl hm))
    obtain ⟨dm, rfl⟩ := u8_of hz1 hz2
    obtain ⟨us1, bb1, ps1, c1, hr1, hp1, hl1⟩ := arg_parts Try.underlying22 (by kernel_rfl) (by kernel_rfl) Try.underlying23 Try.underlying5 (by kernel_rfl) (by kernel_rfl) (hval 1 22 v1 rfl rfl) h1 (fun m hm => hw m (by simp only [DataW.weightsEach, List.mem_append]; exact .inr (.inl hm)))
    obtain ⟨bs2, c2, hr2, hb2⟩ := arg_bytes Try.underlying23 Try.underlying5 (by kernel_rfl) (by kernel_rfl) (hval 2 23 v2 rfl rfl) h2 (fun m hm => hw m (by simp only [DataW.weightsEach, List.mem_append]; exact .inr (.inr (.inl hm))))
    exact bytesRow_c dm v1 v2 us1 bb1 ps1 c1 c2 bs2 W hr1 hp1 hr2 (Nat.le_trans hl1 (by decide))

/-- The statement. -/
theorem bytesRow_holds : Rows.BytesRowSaid :=
  OpenClaim.holds_of_wide 3 Try.f3 rfl rfl rfl rfl rfl rfl rfl ⟨rfl, rfl, rfl, rfl, rfl⟩ rfl rfl rfl rfl rfl (by kernel_rfl) Try.func3 (by kernel_rfl)
    (of_decide_eq_true (by kernel_rfl)) (by unfold Func.isWrapper; first | (rw [if_pos (by decide +kernel)]; kernel_rfl) | (rw [if_neg (by decide +kernel)]; exact ⟨rfl, rfl⟩))
    (fun os started H enc _ => bytesRow_lifted os started H enc)
#print axioms bytesRow_holds
end Go.Proofs.Ytfdndkempgnlcaa
