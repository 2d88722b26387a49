/- BytesNum of casematelaw06 returns true for whatever bytes and whatever width, number and text; they read behind the call as before. No condition. -/
import Derived.Test.YtfdndkempgnlcaaLb
namespace Go.Proofs.Ytfdndkempgnlcaa
open Go Go.Kx
open Go.ChangeShapes Go.WideShapes Go.ChangeAt Go.RowKit
theorem sz5 : (Try.prog.info? 5).map (·.size) = some 1 := by kernel_rfl
theorem fo44_2 : fieldOff Try.prog 44 2 = some 2 := by kernel_rfl
theorem one9 : OneT Try.prog 9 := OneT.of Try.underlying9 rfl (by kernel_rfl)
theorem fo44_0 : fieldOff Try.prog 44 0 = some 0 := by kernel_rfl
theorem one3 : OneT Try.prog 3 := OneT.of Try.underlying3 rfl (by kernel_rfl)
theorem fo44_1 : fieldOff Try.prog 44 1 = some 1 := by kernel_rfl
theorem one42 : OneT Try.prog 42 := OneT.of Try.underlying42 rfl (by kernel_rfl)
theorem refWidth_c (x : Int) (w : World) : Calls Try.prog 39 #[.int .i64 x] w fun e w' => e = .returned (.bool (widthB x)) ∧ Mem w [] w' [] := by
  have hM := Mem.start0 w
  refine f_enter 17 Try.func39 rfl rfl rfl ?_
  intro a hE
  replace hE : Env a 17 [(0, _)] := hE
  refine wp_seq_k (fun K1 hK1 => ?_)
  refine wp_plain [true] rfl rfl ?_
  refine s_assign hE rfl rfl ?_; clear hE a; intro a hE
  refine q_nil ?_
  refine hK1 _ _ ?_
  refine wp_seq_k (fun K2 hK2 => ?_)
  refine wp_plain [true, true, true, true, true, true, true, true, true, true, true, true, true, true, true] rfl rfl ?_
  refine s_move hE rfl rfl ?_; clear hE a; intro a hE
  refine s_bin hE rfl rfl bin_eql rfl ?_; clear hE a; intro a hE
  refine s_move hE rfl rfl ?_; clear hE a; intro a hE
  refine hE.split 5 rfl (fun hb5 hE' => ?_) (fun hb5 hE' => ?_)
  · replace hE := hE'; clear hE'
    refine g_no (b := true) hE rfl rfl rfl ?_; clear hE a; intro a hE
    refine g_no (b := true) hE rfl rfl rfl ?_; clear hE a; intro a hE
    refine s_pickt hE rfl rfl rfl ?_; clear hE a; intro a hE
    refine s_move hE rfl rfl ?_; clear hE a; intro a hE
    refine g_no (b := true) hE rfl rfl rfl ?_; clear hE a; intro a hE
    refine g_no (b := true) hE rfl rfl rfl ?_; clear hE a; intro a hE
    refine s_pickt hE rfl rfl rfl ?_; clear hE a; intro a hE
    refine s_move hE rfl rfl ?_; clear hE a; intro a hE
    refine g_no (b := true) hE rfl rfl rfl ?_; clear hE a; intro a hE
    refine g_no (b := true) hE rfl rfl rfl ?_; clear hE a; intro a hE
    refine s_pickt hE rfl rfl rfl ?_; clear hE a; intro a hE
    refine s_assign hE rfl rfl ?_; clear hE a; intro a hE
    refine q_nil ?_
    replace hE : Env a 17 [(2, _)] := hE.sel [2] rfl
    refine hK2 _ _ ?_
    refine wp_ret ?_
    refine f_ret1 hE rfl rfl ?_
    exact ⟨by simp [widthB, hb5], hM⟩
  · replace hE := hE'; clear hE'
    refine g_yes hE rfl rfl ?_
    refine s_move hE rfl rfl ?_; clear hE a; intro a hE
    refine g_yes hE rfl rfl ?_
    refine s_bin hE rfl rfl bin_eql rfl ?_; clear hE a; intro a hE
    refine s_pickf hE rfl rfl rfl ?_; clear hE a; intro a hE
    refine s_move hE rfl rfl ?_; clear hE a; intro a hE
    refine hE.split 9 rfl (fun hb9 hE' => ?_) (fun hb9 hE' => ?_)
    · replace hE := hE'; clear hE'
      refine g_no (b := true) hE rfl rfl rfl ?_; clear hE a; intro a hE
      refine g_no (b := true) hE rfl rfl rfl ?_; clear hE a; intro a hE
      refine s_pickt hE rfl rfl rfl ?_; clear hE a; intro a hE
      refine s_move hE rfl rfl ?_; clear hE a; intro a hE
      refine g_no (b := true) hE rfl rfl rfl ?_; clear hE a; intro a hE
      refine g_no (b := true) hE rfl rfl rfl ?_; clear hE a; intro a hE
      refine s_pickt hE rfl rfl rfl ?_; clear hE a; intro a hE
      refine s_assign hE rfl rfl ?_; clear hE a; intro a hE
      refine q_nil ?_
      replace hE : Env a 17 [(2, _)] := hE.sel [2] rfl
      refine hK2 _ _ ?_
      refine wp_ret ?_
      refine f_ret1 hE rfl rfl ?_
      exact ⟨by simp [widthB, hb5, hb9], hM⟩
    · replace hE := hE'; clear hE'
      refine g_yes hE rfl rfl ?_
      refine s_move hE rfl rfl ?_; clear hE a; intro a hE
      refine g_yes hE rfl rfl ?_
      refine s_bin hE rfl rfl bin_eql rfl ?_; clear hE a; intro a hE
      refine s_pickf hE rfl rfl rfl ?_; clear hE a; intro a hE
      refine s_move hE rfl rfl ?_; clear hE a; intro a hE
      refine hE.split 13 rfl (fun hb13 hE' => ?_) (fun hb13 hE' => ?_)
      · replace hE := hE'; clear hE'
        refine g_no (b := true) hE rfl rfl rfl ?_; clear hE a; intro a hE
        refine g_no (b := true) hE rfl rfl rfl ?_; clear hE a; intro a hE
        refine s_pickt hE rfl rfl rfl ?_; clear hE a; intro a hE
        refine s_assign hE rfl rfl ?_; clear hE a; intro a hE
        refine q_nil ?_
        replace hE : Env a 17 [(2, _)] := hE.sel [2] rfl
        refine hK2 _ _ ?_
        refine wp_ret ?_
        refine f_ret1 hE rfl rfl ?_
        exact ⟨by simp [widthB, hb5, hb9, hb13], hM⟩
      · replace hE := hE'; clear hE'
        refine g_yes hE rfl rfl ?_
        refine s_move hE rfl rfl ?_; clear hE a; intro a hE
        refine g_yes hE rfl rfl ?_
        refine s_bin hE rfl rfl bin_eql rfl ?_; clear hE a; intro a hE
        refine s_pickf hE rfl rfl rfl ?_; clear hE a; intro a hE
        refine s_assign hE rfl rfl ?_; clear hE a; intro a hE
        refine q_nil ?_
        replace hE : Env a 17 [(2, _)] := hE.sel [2] rfl
        refine hK2 _ _ ?_
        refine wp_ret ?_
        refine f_ret1 hE rfl rfl ?_
        exact ⟨by simp [widthB, hb5, hb9, hb13], hM⟩
theorem refDigits_c (k m : Nat) (w : World) (hk : k ≤ 8) (hm : m < 2 ^ 64) : Calls Try.prog 35 #[.int .i64 k, .int .u64 m] w fun e w' => ∃ v', e = .returned v' ∧ Mem w [] w' [own v' 1 k (bv (laid k m))] := by
  have hM := Mem.start0 w
  refine f_enter 24 Try.func35 rfl rfl rfl ?_
  intro a hE
  replace hE : Env a 24 [(0, _), (1, _)] := hE
  refine wp_seq_k (fun K1 hK1 => ?_)
  refine wp_plain [true] rfl rfl ?_
  refine s_assign hE rfl rfl ?_; clear hE a; intro a hE
  refine q_nil ?_
  refine hK1 _ _ ?_
  refine wp_seq_k (fun K2 hK2 => ?_)
  refine wp_plain [true, false, true] rfl rfl ?_
  refine s_move hE rfl rfl ?_; clear hE a; intro a hE
  refine s_makeSlice (m := k) (zc := [bV 0]) hE rfl rfl hM sl23 ⟨_, rfl, rfl⟩ rfl rfl (by omega) (by omega) (by decide) rfl ?_; clear hE a; intro a v8 w1 hE hM'; clear hM; have hM := hM'; clear hM'
  replace hM := hM.ownEq (m' := k) (cs' := bv (List.replicate k 0)) rfl (by simp [bv])
  refine s_assign hE rfl rfl ?_; clear hE a; intro a hE
  refine q_nil ?_
  replace hE : Env a 24 [(0, _), (1, _), (4, _), (5, _)] := hE.sel [0, 1, 4, 5] rfl
  refine hK2 _ _ ?_
  refine wp_seq_k (fun K3 hK3 => ?_)
  refine wp_seq_k (fun K4 hK4 => ?_)
  refine wp_plain [true, true, true] rfl rfl ?_
  refine s_move hE rfl rfl ?_; clear hE a; intro a hE
  refine s_bin (r := .int .i64 ((k : Int) - 1)) hE rfl rfl (bin_sub (wrap_i64 (by omega) (by omega))) rfl ?_; clear hE a; intro a hE
  refine s_assign hE rfl rfl ?_; clear hE a; intro a hE
  refine q_nil ?_
  replace hE : Env a 24 [(0, _), (1, _), (4, _), (5, _), (6, _)] := hE.sel [0, 1, 4, 5, 6] rfl
  refine hK4 _ _ ?_
  refine wp_block ?_
  refine c_loop (fun (i : Nat) a w' => ∃ (j n : Nat) (bs : List UInt8), j ≤ k ∧ i = k - j ∧ n = m / 256 ^ (k - j) ∧ n < 2 ^ 64 ∧ bs.length = k ∧ (∀ p, j ≤ p → p < k → bs.getD p 0 = (laid k m).getD p 0) ∧ Env a 24 [(1, .int .u64 n), (5, v8), (6, .int .i64 ((j : Int) - 1))] ∧ Mem w [] w' [own v8 1 k (bv bs)]) (fun i => k - i) 0 ⟨k, m, List.replicate k 0, Nat.le_refl _, by omega, by simp, hm, by simp, fun p h1 h2 => absurd h2 (by omega), hE.sel [1, 5, 6] rfl, hM⟩ ?_
  clear hE hM a; rintro i a w9 ⟨j, n, bs, hj, hi, hn, hnm, hbs, hp, hE, hM⟩
  refine wp_seq_k (fun K5 hK5 => ?_)
  refine wp_seq_k (fun K6 hK6 => ?_)
  refine wp_plain [true, true] rfl rfl ?_
  refine s_move hE rfl rfl ?_; clear hE a; intro a hE
  refine s_bin hE rfl rfl bin_geq rfl ?_; clear hE a; intro a hE
  refine q_nil ?_
  replace hE : Env a 24 [(1, _), (5, _), (6, _), (12, _)] := hE.sel [1, 5, 6, 12] rfl
  refine hK6 _ _ ?_
  refine hE.split 12 rfl (fun hb12 hE' => ?_) (fun hb12 hE' => ?_)
  · replace hE := hE'; clear hE'
    replace hb12 := of_decide_eq_true hb12
    refine wp_cond_true (hE.eval rfl) ?_
    refine wp_skip ?_
    refine hK5 _ _ ?_
    refine wp_seq_k (fun K7 hK7 => ?_)
    refine wp_block ?_
    refine wp_seq_k (fun K8 hK8 => ?_)
    refine wp_plain [true, true, true, true, true, true, false] rfl rfl ?_
    refine s_move hE rfl rfl ?_; clear hE a; intro a hE
    refine s_move hE rfl rfl ?_; clear hE a; intro a hE
    refine s_move hE rfl rfl ?_; clear hE a; intro a hE
    refine s_bin hE rfl rfl (bin_rem_nat (s := 256) (by decide)) rfl ?_; clear hE a; intro a hE
    refine s_conv hE rfl (cnv_int Try.underlying42 Try.underlying5 (by rw [wrap_u8_ofNat, ofNat_mod])) rfl ?_; clear hE a; intro a hE
    refine s_indexOwn (j := (j - 1)) hE rfl (hM.get 0 rfl) rfl slt23 (by first | rfl | omega) (by first | omega | decide) rfl ?_; clear hE a; intro a hE hc20
    refine s_storeOwn (vs := [bV _]) hE rfl rfl hM rfl sz5 rfl (by intro u hu; rw [List.mem_singleton.1 hu]; rfl) (by simp; omega) (by omega) (by intro X h; cases h) ?_; intro w10 hM'; clear hM; have hM := hM'; clear hM'
    refine q_nil ?_
    replace hE : Env a 24 [(1, _), (5, _), (6, _), (12, _)] := hE.sel [1, 5, 6, 12] rfl
    refine hK8 _ _ ?_
    refine wp_plain [true, true, true] rfl rfl ?_
    refine s_move hE rfl rfl ?_; clear hE a; intro a hE
    refine s_bin hE rfl rfl (bin_quo_nat (s := 256) (by decide) (wrap_u64 (by omega) (by have := Nat.div_le_self n 256; omega))) rfl ?_; clear hE a; intro a hE
    refine s_assign hE rfl rfl ?_; clear hE a; intro a hE
    refine q_nil ?_
    replace hE : Env a 24 [(1, _), (5, _), (6, _), (12, _)] := hE.sel [1, 5, 6, 12] rfl
    refine q_block_n ?_
    refine hK7 _ _ ?_
    refine wp_plain [true, true, true] rfl rfl ?_
    refine s_move hE rfl rfl ?_; clear hE a; intro a hE
    refine s_bin hE rfl rfl (bin_sub (wrap_i64 (by omega) (by omega))) rfl ?_; clear hE a; intro a hE
    refine s_assign hE rfl rfl ?_; clear hE a; intro a hE
    refine q_nil ?_
    replace hE : Env a 24 [(1, _), (5, _), (6, _), (12, _)] := hE.sel [1, 5, 6, 12] rfl
    rw [bv_set (by omega)] at hM
    refine ⟨i + 1, ⟨j - 1, n / 256, _, by omega, by omega, ?_, by have := Nat.div_le_self n 256; omega, by simpa using hbs, ?_, (hE.cast 6 rfl (show _ = Value.int .i64 (((j - 1 : Nat) : Int) - 1) from congrArg _ (by omega))).sel [1, 5, 6] rfl, hM⟩, by omega⟩
    · rw [hn, Nat.div_div_eq_div_mul, ← Nat.pow_succ]; congr 2; omega
    · intro p h1 h2
      by_cases e : p = j - 1
      · subst e
        rw [laid_get (by omega), hn]
        simp [List.getD, show j - 1 < bs.length by omega]
        congr 3; omega
      · have := hp p (by omega) h2
        rw [← this]
        simp [List.getD, List.getElem?_set_ne (Ne.symm e)]
  · replace hE := hE'; clear hE'
    replace hb12 := of_decide_eq_false hb12
    refine wp_cond_false (hE.eval rfl) ?_
    refine wp_exit ?_
    refine q_then_e ?_
    refine q_then_e ?_
    refine q_block_x ?_
    refine hK3 _ _ ?_
    refine wp_seq_k (fun K7 hK7 => ?_)
    refine wp_plain [true, true] rfl rfl ?_
    refine s_move hE rfl rfl ?_; clear hE a; intro a hE
    refine s_assign hE rfl rfl ?_; clear hE a; intro a hE
    refine q_nil ?_
    replace hE : Env a 24 [(1, _), (4, _), (5, _), (6, _), (12, _)] := hE.sel [1, 4, 5, 6, 12] rfl
    refine hK7 _ _ ?_
    refine wp_ret ?_
    refine f_ret1 hE rfl rfl ?_
    obtain rfl : j = 0 := by omega
    have e : bs = laid k m := by
      apply List.ext_getElem?
      intro p
      by_cases h : p < k
      · have := hp p (by omega) h
        simp only [List.getD, List.getElem?_eq_getElem (show p < bs.length by omega), List.getElem?_eq_getElem (show p < (laid k m).length by simpa using h), Option.getD_some] at this ⊢
        rw [this]
      · rw [List.getElem?_eq_none (by omega), List.getElem?_eq_none (by simp; omega)]
    subst e
    exact ⟨_, rfl, hM⟩
theorem refValue_c (bs : List UInt8) (v : Value) (c : Nat) (w : World) (hr : (rd v 1 bs.length c (bv bs)).holds w) (hk : bs.length ≤ 8) : Calls Try.prog 36 #[v] w fun e w' => e = .returned (.int .u64 ((val bs : Nat) : Int)) ∧ Mem w [] w' [] := by
  have hM := Mem.startR1 hr rfl
  refine f_enter 20 Try.func36 rfl rfl rfl ?_
  intro a hE
  replace hE : Env a 20 [(0, _)] := hE
  refine wp_seq_k (fun K1 hK1 => ?_)
  refine wp_plain [true] rfl rfl ?_
  refine s_assign hE rfl rfl ?_; clear hE a; intro a hE
  refine q_nil ?_
  refine hK1 _ _ ?_
  refine wp_seq_k (fun K2 hK2 => ?_)
  refine wp_plain [true] rfl rfl ?_
  refine s_assign hE rfl rfl ?_; clear hE a; intro a hE
  refine q_nil ?_
  refine hK2 _ _ ?_
  refine wp_seq_k (fun K3 hK3 => ?_)
  refine wp_seq_k (fun K4 hK4 => ?_)
  refine wp_plain [true] rfl rfl ?_
  refine s_assign hE rfl rfl ?_; clear hE a; intro a hE
  refine q_nil ?_
  refine hK4 _ _ ?_
  refine wp_block ?_
  refine c_loop (fun (i : Nat) a w' => i ≤ bs.length ∧ Env a 20 [(0, v), (3, .int .u64 ((val (bs.take i) : Nat) : Int)), (4, .int .i64 i)] ∧ Mem w [] w' [rd v 1 bs.length c (bv bs)]) (fun i => bs.length - i) 0 ⟨Nat.zero_le _, hE.sel [0, 3, 4] rfl, hM⟩ ?_
  clear hE hM a; rintro i a w9 ⟨hi, hE, hM⟩
  refine wp_seq_k (fun K5 hK5 => ?_)
  refine wp_seq_k (fun K6 hK6 => ?_)
  refine wp_plain [true, true, true, true] rfl rfl ?_
  refine s_move hE rfl rfl ?_; clear hE a; intro a hE
  refine s_move hE rfl rfl ?_; clear hE a; intro a hE
  refine s_len hE rfl Try.underlying23 (rd_slice (hM.get 0 rfl)) rfl ?_; clear hE a; intro a hE
  refine s_bin hE rfl rfl bin_lss rfl ?_; clear hE a; intro a hE
  refine q_nil ?_
  replace hE : Env a 20 [(0, _), (3, _), (4, _), (8, _)] := hE.sel [0, 3, 4, 8] rfl
  refine hK6 _ _ ?_
  refine hE.split 8 rfl (fun hb8 hE' => ?_) (fun hb8 hE' => ?_)
  · replace hE := hE'; clear hE'
    replace hb8 := of_decide_eq_true hb8
    have hv56 := val_lt56 (bs := bs.take i) (by simp; omega)
    have hb8 := (bs.getD i 0).toNat_lt
    refine wp_cond_true (hE.eval rfl) ?_
    refine wp_skip ?_
    refine hK5 _ _ ?_
    refine wp_seq_k (fun K7 hK7 => ?_)
    refine wp_block ?_
    refine wp_plain [true, true, true, true, true, true, true, true, true] rfl rfl ?_
    refine s_move hE rfl rfl ?_; clear hE a; intro a hE
    refine s_bin hE rfl rfl (bin_mul (q := ((256 * val (bs.take i) : Nat) : Int)) (by rw [wrap_u64 (by omega) (by omega)]; omega)) rfl ?_; clear hE a; intro a hE
    refine s_move hE rfl rfl ?_; clear hE a; intro a hE
    refine s_move hE rfl rfl ?_; clear hE a; intro a hE
    refine s_indexRd (j := i) hE rfl (hM.get 0 rfl) rfl slt23 (by first | rfl | omega) (by first | omega | decide) rfl ?_; clear hE a; intro a p15 hE hc15 hp15
    rw [bv_elem (by omega)] at hc15
    refine s_loadAt1 hE rfl hc15 one5 (by intro X h; cases h) rfl ?_; clear hE a; intro a hE
    refine s_conv hE rfl (cnv_int Try.underlying5 Try.underlying42 (wrap_u64 (by omega) (by omega))) rfl ?_; clear hE a; intro a hE
    refine s_bin hE rfl rfl (bin_add (q := ((256 * val (bs.take i) + (bs.getD i 0).toNat : Nat) : Int)) (by rw [wrap_u64 (by omega) (by omega)]; omega)) rfl ?_; clear hE a; intro a hE
    refine s_assign hE rfl rfl ?_; clear hE a; intro a hE
    refine q_nil ?_
    replace hE : Env a 20 [(0, _), (3, _), (4, _), (8, _)] := hE.sel [0, 3, 4, 8] rfl
    refine q_block_n ?_
    refine hK7 _ _ ?_
    refine wp_plain [true, true, true] rfl rfl ?_
    refine s_move hE rfl rfl ?_; clear hE a; intro a hE
    refine s_bin hE rfl rfl (bin_add (wrap_i64 (by omega) (by omega))) rfl ?_; clear hE a; intro a hE
    refine s_assign hE rfl rfl ?_; clear hE a; intro a hE
    refine q_nil ?_
    replace hE : Env a 20 [(0, _), (3, _), (4, _), (8, _)] := hE.sel [0, 3, 4, 8] rfl
    replace hE := hE.cast 4 rfl (show _ = Value.int .i64 ((i + 1 : Nat) : Int) from congrArg _ (by omega))
    refine ⟨i + 1, ⟨by omega, (hE.cast 3 rfl ?_).sel [0, 3, 4] rfl, hM⟩, by omega⟩
    rw [val_take_succ (by omega), Nat.mul_comm]
  · replace hE := hE'; clear hE'
    replace hb8 := of_decide_eq_false hb8
    obtain rfl : i = bs.length := by omega
    refine wp_cond_false (hE.eval rfl) ?_
    refine wp_exit ?_
    refine q_then_e ?_
    refine q_then_e ?_
    refine q_block_x ?_
    refine hK3 _ _ ?_
    refine wp_seq_k (fun K7 hK7 => ?_)
    refine wp_plain [true, true] rfl rfl ?_
    refine s_move hE rfl rfl ?_; clear hE a; intro a hE
    refine s_assign hE rfl rfl ?_; clear hE a; intro a hE
    refine q_nil ?_
    replace hE : Env a 20 [(0, _), (2, _), (3, _), (4, _), (8, _)] := hE.sel [0, 2, 3, 4, 8] rfl
    refine hK7 _ _ ?_
    refine wp_ret ?_
    refine f_ret1 hE rfl rfl ?_
    rw [List.take_length]; exact ⟨rfl, hM.nil⟩
theorem refNum_badw (bs : List UInt8) (v : Value) (x : Int) (m : Nat) (w : World) (hw : widthB x = false) : Calls Try.prog 21 #[v, .int .i64 x, .int .u64 m] w fun e w' => ∃ v', e = .returned (.tuple #[v', .int .i64 (((pNum bs x m).2 : Nat) : Int)]) ∧ Mem w [] w' [own v' 1 (pNum bs x m).1.length (bv (pNum bs x m).1)] := by
  have hM := Mem.start0 w
  refine f_enter 26 Try.func21 rfl rfl rfl ?_
  intro a hE
  replace hE : Env a 26 [(0, _), (1, _), (2, _)] := hE
  refine wp_seq_k (fun K1 hK1 => ?_)
  refine wp_plain [true, true] rfl rfl ?_
  refine s_assign hE rfl rfl ?_; clear hE a; intro a hE
  refine s_assign hE rfl rfl ?_; clear hE a; intro a hE
  refine q_nil ?_
  refine hK1 _ _ ?_
  refine wp_seq_k (fun K2 hK2 => ?_)
  refine wp_seq_k (fun K3 hK3 => ?_)
  refine wp_plain [true, false, true] rfl rfl ?_
  refine s_move hE rfl rfl ?_; clear hE a; intro a hE
  refine s_call hE rfl Try.call39 (refWidth_c _ _) rfl ?_
  rintro e w1 ⟨rfl, hN⟩
  refine ⟨_, rfl, trivial, ?_⟩; clear hE a; intro a hE
  replace hM : Mem _ _ w1 [] := hM.call0 hN trivial; clear hN
  refine s_not hE rfl rfl ?_; clear hE a; intro a hE
  refine q_nil ?_
  replace hE : Env a 26 [(0, _), (1, _), (2, _), (6, _), (7, _), (12, _)] := hE.sel [0, 1, 2, 6, 7, 12] rfl
  refine hK3 _ _ ?_
  replace hE := hE.cast 12 rfl (show _ = Value.bool true from (by rw [hw]; rfl))
  refine wp_cond_true (hE.eval rfl) ?_
  refine wp_seq_k (fun K4 hK4 => ?_)
  refine wp_plain [true, true] rfl rfl ?_
  refine s_assign hE rfl rfl ?_; clear hE a; intro a hE
  refine s_assign hE rfl rfl ?_; clear hE a; intro a hE
  refine q_nil ?_
  refine hK4 _ _ ?_
  refine wp_ret ?_
  refine q_then_r ?_
  refine f_ret2 hE rfl rfl rfl ?_
  have hp : pNum bs x m = ([], 2) := by simp [pNum, numFits, hw]
  rw [hp]; exact ⟨_, rfl, hM.nil.addNil 1⟩
theorem refNum_k (bs : List UInt8) (v : Value) (c : Nat) (k : Nat) (m : Nat) (w : World) (hr : (rd v 1 bs.length c (bv bs)).holds w) (hw : widthB k = true) (hk : k ≤ 8) (hm : m < 2 ^ 64) (hlen : bs.length + 8 ≤ 140737488355328) : Calls Try.prog 21 #[v, .int .i64 k, .int .u64 m] w fun e w' => ∃ v', e = .returned (.tuple #[v', .int .i64 (((pNum bs k m).2 : Nat) : Int)]) ∧ Mem w [] w' [own v' 1 (pNum bs k m).1.length (bv (pNum bs k m).1)] := by
  have hM := Mem.startR1 hr rfl
  refine f_enter 26 Try.func21 rfl rfl rfl ?_
  intro a hE
  replace hE : Env a 26 [(0, _), (1, _), (2, _)] := hE
  refine wp_seq_k (fun K1 hK1 => ?_)
  refine wp_plain [true, true] rfl rfl ?_
  refine s_assign hE rfl rfl ?_; clear hE a; intro a hE
  refine s_assign hE rfl rfl ?_; clear hE a; intro a hE
  refine q_nil ?_
  refine hK1 _ _ ?_
  refine wp_seq_k (fun K2 hK2 => ?_)
  refine wp_seq_k (fun K3 hK3 => ?_)
  refine wp_plain [true, false, true] rfl rfl ?_
  refine s_move hE rfl rfl ?_; clear hE a; intro a hE
  refine s_call hE rfl Try.call39 (refWidth_c _ _) rfl ?_
  rintro e w1 ⟨rfl, hN⟩
  refine ⟨_, rfl, trivial, ?_⟩; clear hE a; intro a hE
  replace hM : Mem _ _ w1 [_] := hM.call0 hN trivial; clear hN
  refine s_not hE rfl rfl ?_; clear hE a; intro a hE
  refine q_nil ?_
  replace hE : Env a 26 [(0, _), (1, _), (2, _), (6, _), (7, _), (12, _)] := hE.sel [0, 1, 2, 6, 7, 12] rfl
  refine hK3 _ _ ?_
  replace hE := hE.cast 12 rfl (show _ = Value.bool false from (by rw [hw]; rfl))
  refine wp_cond_false (hE.eval rfl) ?_
  refine wp_skip ?_
  refine hK2 _ _ ?_
  refine wp_seq_k (fun K4 hK4 => ?_)
  refine wp_plain [true, true, false, true] rfl rfl ?_
  refine s_move hE rfl rfl ?_; clear hE a; intro a hE
  refine s_move hE rfl rfl ?_; clear hE a; intro a hE
  refine s_call hE rfl Try.call35 (refDigits_c k m _ hk hm) rfl ?_
  rintro e w2 ⟨vd, rfl, hN⟩
  refine ⟨_, rfl, trivial, ?_⟩; clear hE a; intro a hE
  replace hM : Mem _ _ w2 [_, _] := hM.call0 hN ⟨rfl, trivial⟩; clear hN
  refine s_assign hE rfl rfl ?_; clear hE a; intro a hE
  refine q_nil ?_
  replace hE : Env a 26 [(0, _), (1, _), (2, _), (6, _), (7, _), (8, _), (12, _)] := hE.sel [0, 1, 2, 6, 7, 8, 12] rfl
  refine hK4 _ _ ?_
  refine wp_seq_k (fun K5 hK5 => ?_)
  refine wp_seq_k (fun K6 hK6 => ?_)
  refine wp_plain [true, false, true, true] rfl rfl ?_
  refine s_move hE rfl rfl ?_; clear hE a; intro a hE
  obtain ⟨cd, hd⟩ := own_rd (hM.get 0 rfl)
  refine s_call hE rfl Try.call36 ((by have h := refValue_c (laid k m) vd cd _ (by rw [laid_length]; exact hd) (by simp; omega); exact h)) rfl ?_
  rintro e w3 ⟨rfl, hN⟩
  refine ⟨_, rfl, trivial, ?_⟩; clear hE a; intro a hE
  replace hM : Mem _ _ w3 [_, _] := hM.call0 hN trivial; clear hN
  refine s_move hE rfl rfl ?_; clear hE a; intro a hE
  refine s_bin hE rfl rfl bin_neq rfl ?_; clear hE a; intro a hE
  refine q_nil ?_
  replace hE : Env a 26 [(0, _), (1, _), (2, _), (6, _), (7, _), (8, _), (12, _), (19, _)] := hE.sel [0, 1, 2, 6, 7, 8, 12, 19] rfl
  refine hK6 _ _ ?_
  refine hE.split 19 rfl (fun hb19 hE' => ?_) (fun hb19 hE' => ?_)
  · replace hE := hE'; clear hE'
    replace hb19 : numFits k m = false := by rw [fits_iff hk hm hw]; exact decide_eq_false (fun h => by rw [h] at hb19; simp at hb19)
    refine wp_cond_true (hE.eval rfl) ?_
    refine wp_seq_k (fun K7 hK7 => ?_)
    refine wp_plain [true, true] rfl rfl ?_
    refine s_assign hE rfl rfl ?_; clear hE a; intro a hE
    refine s_assign hE rfl rfl ?_; clear hE a; intro a hE
    refine q_nil ?_
    refine hK7 _ _ ?_
    refine wp_ret ?_
    refine q_then_r ?_
    refine f_ret2 hE rfl rfl rfl ?_
    have hp : pNum bs k m = ([], 2) := by simp [pNum, hb19]
    rw [hp]; exact ⟨_, rfl, hM.nil.addNil 1⟩
  · replace hE := hE'; clear hE'
    replace hb19 : numFits k m = true := by rw [fits_iff hk hm hw]; exact decide_eq_true (by simp at hb19; omega)
    refine wp_cond_false (hE.eval rfl) ?_
    refine wp_skip ?_
    refine hK5 _ _ ?_
    refine wp_seq_k (fun K7 hK7 => ?_)
    refine wp_plain [true] rfl rfl ?_
    refine s_assign hE rfl rfl ?_; clear hE a; intro a hE
    replace hM := hM.addNil 1
    refine q_nil ?_
    refine hK7 _ _ ?_
    refine wp_seq_k (fun K8 hK8 => ?_)
    refine wp_plain [true, true, false, true] rfl rfl ?_
    refine s_move hE rfl rfl ?_; clear hE a; intro a hE
    refine s_move hE rfl rfl ?_; clear hE a; intro a hE
    have hy := hM.get 2 rfl
    refine s_append hE rfl rfl hM sl23 (Src.rd Try.underlying23 hy (bv_one _)) (len47 (by omega)) (by omega) (by intro X h; cases h) rfl ?_; clear hE a hy; intro a v22 w4 hE hM'
    clear hM; have hM := hM'; clear hM'
    refine s_assign hE rfl rfl ?_; clear hE a; intro a hE
    refine q_nil ?_
    replace hE : Env a 26 [(1, _), (2, _), (6, _), (7, _), (8, _), (9, _), (12, _), (19, _)] := hE.sel [1, 2, 6, 7, 8, 9, 12, 19] rfl
    refine hK8 _ _ ?_
    refine wp_seq_k (fun K9 hK9 => ?_)
    refine wp_plain [true, true, false, true, true] rfl rfl ?_
    refine s_move hE rfl rfl ?_; clear hE a; intro a hE
    refine s_move hE rfl rfl ?_; clear hE a; intro a hE
    obtain ⟨cy, hy⟩ := own_rd (hM.get 1 rfl)
    refine s_append hE rfl rfl hM sl23 (Src.rd Try.underlying23 hy (bv_one _)) (len47 (by omega)) (by omega) (by intro X h; cases h) rfl ?_; clear hE a hy; intro a v25 w5 hE hM'
    clear hM; have hM := hM'; clear hM'
    refine s_assign hE rfl rfl ?_; clear hE a; intro a hE
    refine s_assign hE rfl rfl ?_; clear hE a; intro a hE
    refine q_nil ?_
    replace hE : Env a 26 [(1, _), (2, _), (6, _), (7, _), (8, _), (9, _), (12, _), (19, _)] := hE.sel [1, 2, 6, 7, 8, 9, 12, 19] rfl
    refine hK9 _ _ ?_
    refine wp_ret ?_
    refine f_ret2 hE rfl rfl rfl ?_
    have hp : pNum bs k m = (bs ++ laid k m, 0) := by simp [pNum, hb19]
    rw [hp]; refine ⟨_, rfl, ?_⟩; simpa using hM.pick [0] rfl
theorem refNum_c (bs : List UInt8) (v : Value) (c : Nat) (x : Int) (m : Nat) (w : World) (hr : (rd v 1 bs.length c (bv bs)).holds w) (hm : m < 2 ^ 64) (hlen : bs.length + 8 ≤ 140737488355328) : Calls Try.prog 21 #[v, .int .i64 x, .int .u64 m] w fun e w' => ∃ v', e = .returned (.tuple #[v', .int .i64 (((pNum bs x m).2 : Nat) : Int)]) ∧ Mem w [] w' [own v' 1 (pNum bs x m).1.length (bv (pNum bs x m).1)] := by
  cases hw : widthB x with
  | false => exact refNum_badw bs v x m w hw
  | true =>
    obtain ⟨k, rfl, hk, _⟩ := widthB_nat hw
    exact refNum_k bs v c k m w hr hw hk hm hlen
theorem refText_c (bs : List UInt8) (v : Value) (c : Nat) (s : ByteArray) (w : World) (hr : (rd v 1 bs.length c (bv bs)).holds w) (hlen : bs.length + s.size + 2 ≤ 140737488355328) : Calls Try.prog 23 #[v, .string s] w fun e w' => ∃ v', e = .returned (.tuple #[v', .int .i64 (((pText bs s.data.toList).2 : Nat) : Int)]) ∧ Mem w [] w' [own v' 1 (pText bs s.data.toList).1.length (bv (pText bs s.data.toList).1)] := by
  have hM := Mem.startR1 hr rfl
  have hsz : s.data.toList.length = s.size := rfl
  refine f_enter 22 Try.func23 rfl rfl rfl ?_
  intro a hE
  replace hE : Env a 22 [(0, _), (1, _)] := hE
  refine wp_seq_k (fun K1 hK1 => ?_)
  refine wp_plain [true, true] rfl rfl ?_
  refine s_assign hE rfl rfl ?_; clear hE a; intro a hE
  refine s_assign hE rfl rfl ?_; clear hE a; intro a hE
  refine q_nil ?_
  refine hK1 _ _ ?_
  refine wp_seq_k (fun K2 hK2 => ?_)
  refine wp_seq_k (fun K3 hK3 => ?_)
  refine wp_plain [true, true, true] rfl rfl ?_
  refine s_move hE rfl rfl ?_; clear hE a; intro a hE
  refine s_len_str hE rfl Try.underlying9 rfl ?_; clear hE a; intro a hE
  refine s_bin hE rfl rfl bin_gtr rfl ?_; clear hE a; intro a hE
  refine q_nil ?_
  replace hE : Env a 22 [(0, _), (1, _), (4, _), (5, _), (9, _)] := hE.sel [0, 1, 4, 5, 9] rfl
  refine hK3 _ _ ?_
  refine hE.split 9 rfl (fun hb9 hE' => ?_) (fun hb9 hE' => ?_)
  · replace hE := hE'; clear hE'
    replace hb9 := of_decide_eq_true hb9
    refine wp_cond_true (hE.eval rfl) ?_
    refine wp_seq_k (fun K4 hK4 => ?_)
    refine wp_plain [true, true] rfl rfl ?_
    refine s_assign hE rfl rfl ?_; clear hE a; intro a hE
    refine s_assign hE rfl rfl ?_; clear hE a; intro a hE
    refine q_nil ?_
    refine hK4 _ _ ?_
    refine wp_ret ?_
    refine q_then_r ?_
    refine f_ret2 hE rfl rfl rfl ?_
    have hp : pText bs s.data.toList = ([], 3) := by unfold pText; rw [if_pos (by omega)]
    rw [hp]; exact ⟨_, rfl, hM.nil.addNil 1⟩
  · replace hE := hE'; clear hE'
    replace hb9 := of_decide_eq_false hb9
    refine wp_cond_false (hE.eval rfl) ?_
    refine wp_skip ?_
    refine hK2 _ _ ?_
    refine wp_seq_k (fun K4 hK4 => ?_)
    refine wp_plain [true] rfl rfl ?_
    refine s_assign hE rfl rfl ?_; clear hE a; intro a hE
    replace hM := hM.addNil 1
    refine q_nil ?_
    refine hK4 _ _ ?_
    refine wp_seq_k (fun K5 hK5 => ?_)
    refine wp_plain [true, true, false, true] rfl rfl ?_
    refine s_move hE rfl rfl ?_; clear hE a; intro a hE
    refine s_move hE rfl rfl ?_; clear hE a; intro a hE
    have hy := hM.get 1 rfl
    refine s_append hE rfl rfl hM sl23 (Src.rd Try.underlying23 hy (bv_one _)) (len47 (by omega)) (by omega) (by intro X h; cases h) rfl ?_; clear hE a hy; intro a v12 w1 hE hM'
    clear hM; have hM := hM'; clear hM'
    refine s_assign hE rfl rfl ?_; clear hE a; intro a hE
    refine q_nil ?_
    replace hE : Env a 22 [(1, _), (4, _), (5, _), (6, _), (9, _)] := hE.sel [1, 4, 5, 6, 9] rfl
    refine hK5 _ _ ?_
    refine wp_seq_k (fun K6 hK6 => ?_)
    refine wp_plain [true, true, true, true, false, false, true] rfl rfl ?_
    refine s_move hE rfl rfl ?_; clear hE a; intro a hE
    refine s_move hE rfl rfl ?_; clear hE a; intro a hE
    refine s_len_str hE rfl Try.underlying9 rfl ?_; clear hE a; intro a hE
    refine s_conv hE rfl (cnv_int Try.underlying3 Try.underlying42 (wrap_u64 (by omega) (by omega))) rfl ?_; clear hE a; intro a hE
    refine s_call hE rfl Try.call35 (refDigits_c 2 s.size _ (by omega) (by omega)) rfl ?_
    rintro e w2 ⟨vd, rfl, hN⟩
    refine ⟨_, rfl, trivial, ?_⟩; clear hE a; intro a hE
    replace hM : Mem _ _ w2 [_, _, _] := hM.call0 hN ⟨rfl, trivial⟩; clear hN
    replace hM : Mem _ _ w2 [_, _, _] := hM.pick [1, 0, 2] rfl
    obtain ⟨cy, hy⟩ := own_rd (hM.get 1 rfl)
    refine s_append hE rfl rfl hM sl23 (Src.rd Try.underlying23 hy (bv_one _)) (len47 (by omega)) (by omega) (by intro X h; cases h) rfl ?_; clear hE a hy; intro a v18 w3 hE hM'
    clear hM; have hM := hM'; clear hM'
    replace hM : Mem _ _ w3 [_, _] := hM.pick [0, 2] rfl
    refine s_assign hE rfl rfl ?_; clear hE a; intro a hE
    refine q_nil ?_
    replace hE : Env a 22 [(1, _), (4, _), (5, _), (6, _), (9, _)] := hE.sel [1, 4, 5, 6, 9] rfl
    refine hK6 _ _ ?_
    refine wp_seq_k (fun K7 hK7 => ?_)
    refine wp_plain [true, true, false, true, true] rfl rfl ?_
    refine s_move hE rfl rfl ?_; clear hE a; intro a hE
    refine s_move hE rfl rfl ?_; clear hE a; intro a hE
    refine s_append hE rfl rfl hM sl23 (Src.str Try.underlying9 s) (len47 (by omega)) (by omega) (by intro X h; cases h) rfl ?_; clear hE a; intro a v21 w4 hE hM'; clear hM; have hM := hM'; clear hM'
    refine s_assign hE rfl rfl ?_; clear hE a; intro a hE
    refine s_assign hE rfl rfl ?_; clear hE a; intro a hE
    refine q_nil ?_
    replace hE : Env a 22 [(1, _), (4, _), (5, _), (6, _), (9, _)] := hE.sel [1, 4, 5, 6, 9] rfl
    refine hK7 _ _ ?_
    refine wp_ret ?_
    refine f_ret2 hE rfl rfl rfl ?_
    have hp : pText bs s.data.toList = (bs ++ laid 2 s.size ++ s.data.toList, 0) := by unfold pText; rw [if_neg (by omega)]; rfl
    rw [hp]; refine ⟨_, rfl, ?_⟩; simpa [hsz, Nat.add_assoc] using hM.pick [0] rfl
theorem bytesNum_c (b0 : List UInt8) (v : Value) (c0 : Nat) (x : Int) (m : Nat) (s0 : ByteArray) (w : World) (hr : (rd v 1 b0.length c0 (bv b0)).holds w) (hm : m < 2 ^ 64) (hs0 : s0.size ≤ 140737488355328) : Calls Try.prog 5 #[v, .agg #[.int .i64 x, .int .u64 m, .string s0]] w fun e w' => e = .returned (.bool true) ∧ Mem w [] w' [] := by
  have hM := Mem.startR1 hr rfl
  refine f_enter 101 Try.func5 rfl rfl rfl ?_
  intro a hE
  replace hE : Env a 101 [(0, _), (1, _)] := hE
  refine wp_seq_k (fun K1 hK1 => ?_)
  refine wp_plain [false, true] rfl rfl ?_
  refine s_box (ss := [[.int .i64 x], [.int .u64 (m : Int)], [.string s0]]) [1, 1, 1] hE hM rfl rfl rfl rfl ?_; clear hE a; intro a bx w1 hE hM'
  clear hM; have hM := hM'; clear hM'
  refine s_assign hE rfl rfl ?_; clear hE a; intro a hE
  refine q_nil ?_
  replace hE : Env a 101 [(0, _), (3, _), (4, _)] := hE.sel [0, 3, 4] rfl
  refine hK1 _ _ ?_
  refine wp_seq_k (fun K2 hK2 => ?_)
  refine wp_plain [true, false, true] rfl rfl ?_
  refine s_move hE rfl rfl ?_; clear hE a; intro a hE
  refine s_call hE rfl Try.call10 (cut_c b0 v c0 _ (hM.get 1 rfl)) rfl ?_
  rintro e w2 ⟨vB, cB, rfl, hvb, hrB, hN⟩
  refine ⟨_, rfl, trivial, ?_⟩; clear hE a; intro a hE
  replace hM : Mem _ _ w2 [_, _] := hM.call0 hN trivial; clear hN
  replace hM := hM.addPart 1 rfl hrB hvb; clear hrB hvb
  have hB : (b0.take 5000).length ≤ 5000 := by simp; omega
  generalize b0.take 5000 = B at hM hB
  refine s_assign hE rfl rfl ?_; clear hE a; intro a hE
  refine q_nil ?_
  replace hE : Env a 101 [(0, _), (3, _), (4, _)] := hE.sel [0, 3, 4] rfl
  refine hK2 _ _ ?_
  refine wp_seq_k (fun K3 hK3 => ?_)
  refine wp_plain [true, true, true, true, true, true, true, true] rfl rfl ?_
  refine s_fieldAddr hE rfl fo44_2 rfl ?_; clear hE a; intro a hE
  refine s_load1 hE rfl (hM.get 1 rfl) rfl one9 (by intro X h; cases h) rfl ?_; clear hE a; intro a hE
  refine s_fieldAddr hE rfl fo44_2 rfl ?_; clear hE a; intro a hE
  refine s_load1 hE rfl (hM.get 1 rfl) rfl one9 (by intro X h; cases h) rfl ?_; clear hE a; intro a hE
  refine s_len_str hE rfl Try.underlying9 rfl ?_; clear hE a; intro a hE
  refine s_min hE rfl rfl rfl ?_; clear hE a; intro a hE
  replace hE := hE.cast 23 rfl (show _ = Value.int .i64 ((min s0.size 70000 : Nat) : Int) from congrArg _ (by split <;> omega))
  refine s_sliceStr (l := 0) (h := min s0.size 70000) hE rfl Try.underlying9 rfl ⟨_, rfl⟩ (by omega) (by omega) rfl ?_; clear hE a; intro a hE
  have hS : (s0.extract 0 (min s0.size 70000)).size ≤ 70000 := by simp; omega
  generalize s0.extract 0 (min s0.size 70000) = S at hE hS
  refine s_assign hE rfl rfl ?_; clear hE a; intro a hE
  refine q_nil ?_
  replace hE : Env a 101 [(0, _), (3, _), (4, _), (5, _)] := hE.sel [0, 3, 4, 5] rfl
  refine hK3 _ _ ?_
  refine wp_seq_k (fun K4 hK4 => ?_)
  refine wp_plain [false, true, false, false, false, true, true, true, true] rfl rfl ?_
  refine s_buildSlice (xs := []) ([]) hE hM sl23 rfl rfl rfl (by intro v hv; cases hv) rfl rfl rfl rfl ?_; clear hE a; intro a v25 w3 hE hM'
  clear hM; have hM := hM'; clear hM'
  refine s_move hE rfl rfl ?_; clear hE a; intro a hE
  have hy := hM.get 1 rfl
  refine s_append hE rfl rfl hM sl23 (Src.rd Try.underlying23 hy (bv_one _)) (len47 (by omega)) (by omega) (by intro X h; cases h) rfl ?_; clear hE a hy; intro a v27 w4 hE hM'
  clear hM; have hM := hM'; clear hM'
  refine s_buildSlice (xs := [.const (.int .u8 9), .const (.int .u8 9), .const (.int .u8 9)]) (bv [9, 9, 9]) hE hM sl23 rfl rfl rfl (by intro v hv; simp at hv; rcases hv with rfl | rfl | rfl <;> rfl) (by simp [bv, bV, Value.cells]) rfl rfl rfl ?_; clear hE a; intro a v28 w5 hE hM'
  clear hM; have hM := hM'; clear hM'
  replace hM : Mem _ _ w5 [_, _, _, _, _] := hM.pick [1, 0, 2, 3, 4] rfl
  obtain ⟨cy, hy⟩ := own_rd (hM.get 1 rfl)
  refine s_append hE rfl rfl hM sl23 (Src.rd Try.underlying23 hy (bv_one _)) (len47 (by simp; omega)) (by simp; omega) (by intro X h; cases h) rfl ?_; clear hE a hy; intro a v29 w6 hE hM'
  clear hM; have hM := hM'; clear hM'
  replace hM : Mem _ _ w6 [_, _, _, _] := hM.pick [0, 2, 3, 4] rfl
  replace hM := hM.ownEq (m' := B.length + 3) (cs' := bv (B ++ [9, 9, 9])) (by simp) (by simp)
  refine s_move hE rfl rfl ?_; clear hE a; intro a hE
  refine s_len hE rfl Try.underlying23 (rd_slice (hM.get 1 rfl)) rfl ?_; clear hE a; intro a hE
  refine s_sliceTo (l := B.length) hE rfl (hM.get 0 rfl) slt23 ⟨_, rfl⟩ (by simp) rfl ?_; clear hE a; intro a hE
  refine s_assign hE rfl rfl ?_; clear hE a; intro a hE
  refine q_nil ?_
  replace hE : Env a 101 [(0, _), (3, _), (4, _), (5, _), (6, _)] := hE.sel [0, 3, 4, 5, 6] rfl
  refine hK4 _ _ ?_
  refine wp_seq_k (fun K5 hK5 => ?_)
  refine wp_plain [true, true, true, true, true, false, true, true, true, true, true] rfl rfl ?_
  refine s_move hE rfl rfl ?_; clear hE a; intro a hE
  refine s_fieldAddr hE rfl fo44_0 rfl ?_; clear hE a; intro a hE
  refine s_load1 hE rfl (hM.get 2 rfl) rfl one3 (by intro X h; cases h) rfl ?_; clear hE a; intro a hE
  refine s_fieldAddr hE rfl fo44_1 rfl ?_; clear hE a; intro a hE
  refine s_load1 hE rfl (hM.get 2 rfl) rfl one42 (by intro X h; cases h) rfl ?_; clear hE a; intro a hE
  obtain ⟨csn, hsn⟩ := own_subApp (hM.get 0 rfl) (by simp) rfl
  refine s_call hE rfl Try.call20 (num_c B _ _ x m _ hsn (by omega)) rfl ?_
  rintro e w7 ⟨vp, rfl, hN⟩
  refine ⟨_, rfl, trivial, ?_⟩; clear hE a; intro a hE
  replace hM : Mem _ _ w7 [_, _, _, _, _] := hM.call0 hN ⟨rfl, trivial⟩; clear hN
  refine s_move hE rfl rfl ?_; clear hE a; intro a hE
  refine s_extract hE rfl rfl rfl ?_; clear hE a; intro a hE
  refine s_extract hE rfl rfl rfl ?_; clear hE a; intro a hE
  refine s_assign hE rfl rfl ?_; clear hE a; intro a hE
  refine s_assign hE rfl rfl ?_; clear hE a; intro a hE
  refine q_nil ?_
  replace hE : Env a 101 [(0, _), (3, _), (4, _), (5, _), (6, _), (7, _), (8, _)] := hE.sel [0, 3, 4, 5, 6, 7, 8] rfl
  refine hK5 _ _ ?_
  refine wp_seq_k (fun K6 hK6 => ?_)
  refine wp_plain [true, true, true, true, true, false, true, true, true, true, true] rfl rfl ?_
  refine s_move hE rfl rfl ?_; clear hE a; intro a hE
  refine s_fieldAddr hE rfl fo44_0 rfl ?_; clear hE a; intro a hE
  refine s_load1 hE rfl (hM.get 3 rfl) rfl one3 (by intro X h; cases h) rfl ?_; clear hE a; intro a hE
  refine s_fieldAddr hE rfl fo44_1 rfl ?_; clear hE a; intro a hE
  refine s_load1 hE rfl (hM.get 3 rfl) rfl one42 (by intro X h; cases h) rfl ?_; clear hE a; intro a hE
  refine s_call hE rfl Try.call21 (refNum_c B _ _ x m _ (hM.get 2 rfl) hm (by omega)) rfl ?_
  rintro e w8 ⟨vq, rfl, hN⟩
  refine ⟨_, rfl, trivial, ?_⟩; clear hE a; intro a hE
  replace hM : Mem _ _ w8 [_, _, _, _, _, _] := hM.call0 hN ⟨rfl, trivial⟩; clear hN
  refine s_move hE rfl rfl ?_; clear hE a; intro a hE
  refine s_extract hE rfl rfl rfl ?_; clear hE a; intro a hE
  refine s_extract hE rfl rfl rfl ?_; clear hE a; intro a hE
  refine s_assign hE rfl rfl ?_; clear hE a; intro a hE
  refine s_assign hE rfl rfl ?_; clear hE a; intro a hE
  refine q_nil ?_
  replace hE : Env a 101 [(0, _), (3, _), (4, _), (5, _), (6, _), (7, _), (8, _), (9, _), (10, _)] := hE.sel [0, 3, 4, 5, 6, 7, 8, 9, 10] rfl
  refine hK6 _ _ ?_
  refine wp_seq_k (fun K7 hK7 => ?_)
  refine wp_plain [true, true, false, true, true, true, true, true] rfl rfl ?_
  refine s_move hE rfl rfl ?_; clear hE a; intro a hE
  refine s_move hE rfl rfl ?_; clear hE a; intro a hE
  obtain ⟨cst, hst⟩ := own_subApp (hM.get 2 rfl) (by simp) rfl
  refine s_call hE rfl Try.call22 (text_c B _ _ S _ hst (by omega)) rfl ?_
  rintro e w9 ⟨vr, rfl, hN⟩
  refine ⟨_, rfl, trivial, ?_⟩; clear hE a; intro a hE
  replace hM : Mem _ _ w9 [_, _, _, _, _, _, _] := hM.call0 hN ⟨rfl, trivial⟩; clear hN
  refine s_move hE rfl rfl ?_; clear hE a; intro a hE
  refine s_extract hE rfl rfl rfl ?_; clear hE a; intro a hE
  refine s_extract hE rfl rfl rfl ?_; clear hE a; intro a hE
  refine s_assign hE rfl rfl ?_; clear hE a; intro a hE
  refine s_assign hE rfl rfl ?_; clear hE a; intro a hE
  refine q_nil ?_
  replace hE : Env a 101 [(0, _), (3, _), (4, _), (5, _), (6, _), (7, _), (8, _), (9, _), (10, _), (11, _), (12, _)] := hE.sel [0, 3, 4, 5, 6, 7, 8, 9, 10, 11, 12] rfl
  refine hK7 _ _ ?_
  refine wp_seq_k (fun K8 hK8 => ?_)
  refine wp_plain [true, true, false, true, true, true, true, true] rfl rfl ?_
  refine s_move hE rfl rfl ?_; clear hE a; intro a hE
  refine s_move hE rfl rfl ?_; clear hE a; intro a hE
  refine s_call hE rfl Try.call23 (refText_c B _ _ S _ (hM.get 4 rfl) (by omega)) rfl ?_
  rintro e w10 ⟨vt, rfl, hN⟩
  refine ⟨_, rfl, trivial, ?_⟩; clear hE a; intro a hE
  replace hM : Mem _ _ w10 [_, _, _, _, _, _, _, _] := hM.call0 hN ⟨rfl, trivial⟩; clear hN
  refine s_move hE rfl rfl ?_; clear hE a; intro a hE
  refine s_extract hE rfl rfl rfl ?_; clear hE a; intro a hE
  refine s_extract hE rfl rfl rfl ?_; clear hE a; intro a hE
  refine s_assign hE rfl rfl ?_; clear hE a; intro a hE
  refine s_assign hE rfl rfl ?_; clear hE a; intro a hE
  refine q_nil ?_
  replace hE : Env a 101 [(0, _), (3, _), (4, _), (5, _), (6, _), (7, _), (8, _), (9, _), (10, _), (11, _), (12, _), (13, _), (14, _)] := hE.sel [0, 3, 4, 5, 6, 7, 8, 9, 10, 11, 12, 13, 14] rfl
  refine hK8 _ _ ?_
  refine wp_seq_k (fun K9 hK9 => ?_)
  refine wp_plain [true, true, true, true, true, true] rfl rfl ?_
  refine s_move hE rfl rfl ?_; clear hE a; intro a hE
  refine s_move hE rfl rfl ?_; clear hE a; intro a hE
  refine s_len hE rfl Try.underlying23 (rd_slice (hM.get 5 rfl)) rfl ?_; clear hE a; intro a hE
  refine s_bin hE rfl rfl (bin_add (wrap_i64 (by omega) (by omega))) rfl ?_; clear hE a; intro a hE
  refine s_sliceSub (l := B.length + 3) hE rfl (hM.get 4 rfl) slt23 ⟨_, rfl⟩ (by simp) rfl ?_; clear hE a; intro a hE
  refine s_assign hE rfl rfl ?_; clear hE a; intro a hE
  refine q_nil ?_
  replace hE : Env a 101 [(0, _), (3, _), (4, _), (5, _), (6, _), (7, _), (8, _), (9, _), (10, _), (11, _), (12, _), (13, _), (14, _), (15, _)] := hE.sel [0, 3, 4, 5, 6, 7, 8, 9, 10, 11, 12, 13, 14, 15] rfl
  refine hK9 _ _ ?_
  refine wp_seq_k (fun K10 hK10 => ?_)
  refine wp_plain [true, true, true, true, true, true, true, true, true, true, true, true, true, true, true, true, true, true, true, true, true, true, true, true, true, true, true, true, true, true, true, false, true, true] rfl rfl ?_
  refine s_move hE rfl rfl ?_; clear hE a; intro a hE
  obtain ⟨cs69, hs69⟩ := own_rd (hM.get 3 rfl)
  refine s_toStr hE rfl Try.underlying23 Try.underlying5 Try.underlying9 hs69 (by intro X h; cases h) rfl ?_; clear hE a; intro a hE
  refine s_move hE rfl rfl ?_; clear hE a; intro a hE
  obtain ⟨cs71, hs71⟩ := own_rd (hM.get 2 rfl)
  refine s_toStr hE rfl Try.underlying23 Try.underlying5 Try.underlying9 hs71 (by intro X h; cases h) rfl ?_; clear hE a; intro a hE
  refine s_bin hE rfl rfl bins_str.1 rfl ?_; clear hE a; intro a hE
  refine s_move hE rfl rfl ?_; clear hE a; intro a hE
  replace hE := hE.cast 73 rfl (show _ = Value.bool true from (congrArg Value.bool (by first | exact decide_eq_true rfl | rfl)))
  refine g_yes hE rfl rfl ?_
  refine s_move hE rfl rfl ?_; clear hE a; intro a hE
  refine g_yes hE rfl rfl ?_
  refine s_move hE rfl rfl ?_; clear hE a; intro a hE
  refine g_yes hE rfl rfl ?_
  refine s_bin hE rfl rfl bin_eql rfl ?_; clear hE a; intro a hE
  refine s_pickt hE rfl rfl rfl ?_; clear hE a; intro a hE
  refine s_move hE rfl rfl ?_; clear hE a; intro a hE
  replace hE := hE.cast 78 rfl (show _ = Value.bool true from (congrArg Value.bool (by first | exact decide_eq_true rfl | rfl)))
  refine g_yes hE rfl rfl ?_
  refine s_move hE rfl rfl ?_; clear hE a; intro a hE
  refine g_yes hE rfl rfl ?_
  obtain ⟨cs80, hs80⟩ := own_rd (hM.get 1 rfl)
  refine s_toStr hE rfl Try.underlying23 Try.underlying5 Try.underlying9 hs80 (by intro X h; cases h) rfl ?_; clear hE a; intro a hE
  refine g_yes hE rfl rfl ?_
  refine s_move hE rfl rfl ?_; clear hE a; intro a hE
  refine g_yes hE rfl rfl ?_
  obtain ⟨cs82, hs82⟩ := own_rd (hM.get 0 rfl)
  refine s_toStr hE rfl Try.underlying23 Try.underlying5 Try.underlying9 hs82 (by intro X h; cases h) rfl ?_; clear hE a; intro a hE
  refine g_yes hE rfl rfl ?_
  refine s_bin hE rfl rfl bins_str.1 rfl ?_; clear hE a; intro a hE
  refine s_pickt hE rfl rfl rfl ?_; clear hE a; intro a hE
  refine s_move hE rfl rfl ?_; clear hE a; intro a hE
  replace hE := hE.cast 85 rfl (show _ = Value.bool true from (congrArg Value.bool (by first | exact decide_eq_true rfl | rfl)))
  refine g_yes hE rfl rfl ?_
  refine s_move hE rfl rfl ?_; clear hE a; intro a hE
  refine g_yes hE rfl rfl ?_
  refine s_move hE rfl rfl ?_; clear hE a; intro a hE
  refine g_yes hE rfl rfl ?_
  refine s_bin hE rfl rfl bin_eql rfl ?_; clear hE a; intro a hE
  refine s_pickt hE rfl rfl rfl ?_; clear hE a; intro a hE
  refine s_move hE rfl rfl ?_; clear hE a; intro a hE
  replace hE := hE.cast 90 rfl (show _ = Value.bool true from (congrArg Value.bool (by first | exact decide_eq_true rfl | rfl)))
  refine g_yes hE rfl rfl ?_
  refine s_move hE rfl rfl ?_; clear hE a; intro a hE
  refine g_yes hE rfl rfl ?_
  refine s_move hE rfl rfl ?_; clear hE a; intro a hE
  refine g_yes hE rfl rfl ?_
  refine s_len hE rfl Try.underlying23 (rd_slice (hM.get 5 rfl)) rfl ?_; clear hE a; intro a hE
  refine g_yes hE rfl rfl ?_
  obtain ⟨cm, hm94⟩ := own_rd (own_subB (l := B.length + 3) (hM.get 4 rfl) (by simp))
  rw [List.take_of_length_le (by simp)] at hm94
  have hlm := rd_len hm94
  refine s_slice (l := B.length) (h := B.length + 3) (mx' := cm) hE rfl hm94 slt23 ⟨_, rfl⟩ rfl rfl (by simp) (by omega) (by omega) (by omega) (by omega) rfl ?_; clear hE a; intro a v94 hE hr94 _
  replace hr94 : (rd v94 1 [9, 9, 9].length (cm - B.length) (bv [9, 9, 9])).holds w10 := by
    have e : ((bv (B ++ [9, 9, 9])).drop (B.length * 1)).take ((B.length + 3 - B.length) * 1) = bv [9, 9, 9] := by
      simp only [bv_drop, bv_take, Nat.mul_one, List.drop_left]
      rw [List.take_of_length_le (by simp)]
    rw [e, show B.length + 3 - B.length = 3 by omega] at hr94; exact hr94
  refine g_yes hE rfl rfl ?_
  refine s_toStr hE rfl Try.underlying23 Try.underlying5 Try.underlying9 hr94 (by intro X h; cases h) rfl ?_; clear hE a; intro a hE
  refine g_yes hE rfl rfl ?_
  refine s_bin hE rfl rfl bins_str.1 rfl ?_; clear hE a; intro a hE
  refine s_pickt hE rfl rfl rfl ?_; clear hE a; intro a hE
  refine s_move hE rfl rfl ?_; clear hE a; intro a hE
  replace hE := hE.cast 98 rfl (show _ = Value.bool true from (congrArg Value.bool (by first | exact decide_eq_true rfl | rfl)))
  refine g_yes hE rfl rfl ?_
  refine s_call hE rfl Try.call16 (works_c _) rfl ?_
  rintro e w11 ⟨rfl, hN⟩
  refine ⟨_, rfl, trivial, ?_⟩; clear hE a; intro a hE
  replace hM : Mem _ _ w11 [_, _, _, _, _, _, _, _] := hM.call0 hN trivial; clear hN
  refine s_pickt hE rfl rfl rfl ?_; clear hE a; intro a hE
  refine s_assign hE rfl rfl ?_; clear hE a; intro a hE
  refine q_nil ?_
  replace hE : Env a 101 [(0, _), (3, _), (4, _), (5, _), (6, _)] := hE.sel [0, 3, 4, 5, 6] rfl
  refine hK10 _ _ ?_
  refine wp_ret ?_
  refine f_ret1 hE rfl rfl ?_
  exact ⟨rfl, hM.nil⟩
set_option maxRecDepth 100000 in
theorem bytesNum_lifted (os : Os) (started : os.Started) (H : Type) (enc : TypeId × Value → H) :
    ReturnsInHanded {} Try.checked os 5 .any (Rows.bytesNumSpec.pre6 enc Try.prog Try.f5 Rows.bytesNumRow.domain false) (Rows.bytesNumSpec.post enc Try.prog Try.f5 false true false false) := by
  refine law_lifted (C := Try.checked) (fn := Try.f5) (by kernel_rfl) started (by kernel_rfl) Try.func5 rfl (fun ds hl => ?_) rfl Try.underlying4 (by kernel_rfl) (of_decide_eq_true (by kernel_rfl)) (ChangeSpec.witness6 (enc := enc) (C := Try.checked) false ⟨#[], #[.slice none 0 0, .agg #[.int .i64 0, .int .u64 0, .string .empty]], []⟩ 8 (by kernel_rfl) (by kernel_rfl) (by kernel_rfl) (by kernel_rfl)) ?_
  · rw [Try.params5] at hl
    match ds, hl with
    | [_, _], _ => rfl
  · intro W base args ds ps hval hA hw
    rw [Try.params5] at hA hval hw
    obtain ⟨v0, vs0, d0, ds0, p0, q0, hargs, rfl, rfl, h0, r0⟩ := trodAll_cons hA
    obtain ⟨v1, vs1, d1, ds1, p1, q1, rfl, rfl, rfl, h1, r1⟩ := trodAll_cons r0
    obtain ⟨rfl, rfl, rfl⟩ := trodAll_nil r1
    obtain rfl : args = #[v0, v1] := by cases args; simp_all
    obtain ⟨bs0, c0, hr0, hb0⟩ := arg_bytes Try.underlying23 Try.underlying5 (by kernel_rfl) (by kernel_rfl) (hval 0 23 v0 rfl rfl) h0 (fun m hm => hw m (by simp only [DataW.weightsEach, List.mem_append]; exact .inl hm))
    obtain ⟨cs1, rfl, hcs⟩ := okWide_struct Try.underlying44 (hval 1 44 v1 rfl rfl)
    obtain ⟨hl1, hp1⟩ := trod_of (dec_structL (t := 44) (s := 3) [(3, 0, 1, _), (42, 1, 1, _), (9, 2, 1, _)] Try.underlying44 (by kernel_rfl) (by kernel_rfl) (by
      intro p hp; simp only [List.mem_cons, List.not_mem_nil, or_false] at hp
      rcases hp with rfl | rfl | rfl
      · exact dec_int Try.underlying3
      · exact dec_int Try.underlying42
      · exact dec_string Try.underlying9)) h1 (fun m hm => hw m (by simp only [DataW.weightsEach, List.mem_append]; exact .inr (.inl hm)))
    obtain ⟨a, b, c, hc1⟩ := len3 hl1
    rw [hc1] at hp1
    obtain ⟨x, hx, _⟩ := hp1 _ (.head _)
    obtain ⟨y, hy, hy0, hy1⟩ := hp1 _ (.tail _ (.head _))
    obtain ⟨s0, hs, hs0⟩ := hp1 _ (.tail _ (.tail _ (.head _)))
    simp only [List.drop_zero, List.drop_succ_cons, List.take_succ_cons, List.take_zero, List.cons.injEq, and_true] at hx hy hs
    subst hx hy hs
    obtain ⟨m, rfl⟩ := Int.eq_ofNat_of_zero_le (show 0 ≤ y from hy0)
    have hm : m < 2 ^ 64 := by have h : (m : Int) ≤ 18446744073709551615 := hy1; omega
    have ecs := agg_of hc1
    subst ecs
    exact bytesNum_c bs0 v0 c0 x m s0 W hr0 hm (Nat.le_trans hs0 (by decide))

/-- The statement. -/
theorem bytesNum_holds : Rows.BytesNumSaid :=
  OpenClaim.holds_of_wide 5 Try.f5 rfl rfl rfl rfl rfl rfl rfl ⟨rfl, rfl, rfl, rfl, rfl⟩ rfl rfl rfl rfl rfl (by kernel_rfl) Try.func5 (by kernel_rfl)
    (of_decide_eq_true (by kernel_rfl)) (by unfold Func.isWrapper; first | (rw [if_pos (by decide +kernel)]; kernel_rfl) | (rw [if_neg (by decide +kernel)]; exact ⟨rfl, rfl⟩))
    (fun os started H enc _ => bytesNum_lifted os started H enc)
#print axioms bytesNum_holds
end Go.Proofs.Ytfdndkempgnlcaa
