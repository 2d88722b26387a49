/- Walks of functions of the given program that the claim reaches. -/
import Derived.Test.YtamjaacddbecaaaRows
import Derived.Test.YtamjaacddbecaaaKxO
import Derived.Test.YtamjaacddbecaaaKxZ
import Derived.Test.YtamjaacddbecaaaKxRc
import Derived.Test.YtamjaacddbecaaaKxAz
import Derived.Test.YtamjaacddbecaaaKxY2
import Derived.Test.YtamjaacddbecaaaKxHn
set_option linter.unusedSimpArgs false
set_option linter.unusedVariables false
namespace Go.Proofs.Ytamjaacddbecaaa
open Go Go.Kx
theorem sl55 : SlT Try.prog 55 5 1 1 := ⟨Try.underlying55, by kernel_rfl, by kernel_rfl, .int .u8 0, by kernel_rfl, rfl⟩
theorem fo88_1 : fieldOff Try.prog 88 1 = some 1 := by kernel_rfl
theorem one4 : OneT Try.prog 4 := OneT.of Try.underlying4 rfl (by kernel_rfl)
theorem fo88_2 : fieldOff Try.prog 88 2 = some 2 := by kernel_rfl
theorem fo88_0 : fieldOff Try.prog 88 0 = some 0 := by kernel_rfl
theorem one55 : OneT Try.prog 55 := OneT.of Try.underlying55 rfl (by kernel_rfl)
theorem sz4 : (Try.prog.info? 4).map (·.size) = some 1 := by kernel_rfl
theorem slt55 : slT Try.prog 55 = some 1 := by kernel_rfl
theorem one5 : OneT Try.prog 5 := OneT.of Try.underlying5 rfl (by kernel_rfl)
theorem sz55 : (Try.prog.info? 55).map (·.size) = some 1 := by kernel_rfl
theorem zero88 : Zero Try.prog 88 [[.slice none 0 0], [.bool false], [.bool false]] := ⟨.agg ([[.slice none 0 0], [.bool false], [.bool false]] : List (List Value)).flatten.toArray, by kernel_rfl, by kernel_rfl⟩
theorem fpl88 : fldPl Try.prog 88 = some (plc 0 [1, 1, 1]) := by kernel_rfl
theorem width_c (x : Int) (w : World) : Calls Try.prog 50 #[.int .i64 x] w fun e w' => e = .returned (.bool (widthB x)) ∧ Mem w [] w' [] := by
  have hM := Mem.start0 w
  refine f_enter 17 Try.func50 rfl rfl rfl ?_
  intro a hE
  replace hE : Env a 17 [(0, _)] := hE
  refine wp_seq_k (fun K1 hK1 => ?_)
  refine wp_plain [true] rfl rfl ?_
  refine s_assign hE rfl rfl ?_; clear hE a; intro a hE
  refine q_nil ?_
  refine hK1 _ _ ?_
  refine wp_seq_k (fun K2 hK2 => ?_)
  refine wp_plain [true, true, true, true, true, true, true, true, true, true, true, true, true, true, true] rfl rfl ?_
  refine s_move hE rfl rfl ?_; clear hE a; intro a hE
  refine s_bin hE rfl rfl bin_eql rfl ?_; clear hE a; intro a hE
  refine s_move hE rfl rfl ?_; clear hE a; intro a hE
  refine hE.split 5 rfl (fun hb5 hE' => ?_) (fun hb5 hE' => ?_)
  · replace hE := hE'; clear hE'
    refine g_no (b := true) hE rfl rfl rfl ?_; clear hE a; intro a hE
    refine g_no (b := true) hE rfl rfl rfl ?_; clear hE a; intro a hE
    refine s_pickt hE rfl rfl rfl ?_; clear hE a; intro a hE
    refine s_move hE rfl rfl ?_; clear hE a; intro a hE
    refine g_no (b := true) hE rfl rfl rfl ?_; clear hE a; intro a hE
    refine g_no (b := true) hE rfl rfl rfl ?_; clear hE a; intro a hE
    refine s_pickt hE rfl rfl rfl ?_; clear hE a; intro a hE
    refine s_move hE rfl rfl ?_; clear hE a; intro a hE
    refine g_no (b := true) hE rfl rfl rfl ?_; clear hE a; intro a hE
    refine g_no (b := true) hE rfl rfl rfl ?_; clear hE a; intro a hE
    refine s_pickt hE rfl rfl rfl ?_; clear hE a; intro a hE
    refine s_assign hE rfl rfl ?_; clear hE a; intro a hE
    refine q_nil ?_
    replace hE : Env a 17 [(2, _)] := hE.sel [2] rfl
    refine hK2 _ _ ?_
    refine wp_ret ?_
    refine f_ret1 hE rfl rfl ?_
    exact ⟨by simp [widthB, hb5], hM⟩
  · replace hE := hE'; clear hE'
    refine g_yes hE rfl rfl ?_
    refine s_move hE rfl rfl ?_; clear hE a; intro a hE
    refine g_yes hE rfl rfl ?_
    refine s_bin hE rfl rfl bin_eql rfl ?_; clear hE a; intro a hE
    refine s_pickf hE rfl rfl rfl ?_; clear hE a; intro a hE
    refine s_move hE rfl rfl ?_; clear hE a; intro a hE
    refine hE.split 9 rfl (fun hb9 hE' => ?_) (fun hb9 hE' => ?_)
    · replace hE := hE'; clear hE'
      refine g_no (b := true) hE rfl rfl rfl ?_; clear hE a; intro a hE
      refine g_no (b := true) hE rfl rfl rfl ?_; clear hE a; intro a hE
      refine s_pickt hE rfl rfl rfl ?_; clear hE a; intro a hE
      refine s_move hE rfl rfl ?_; clear hE a; intro a hE
      refine g_no (b := true) hE rfl rfl rfl ?_; clear hE a; intro a hE
      refine g_no (b := true) hE rfl rfl rfl ?_; clear hE a; intro a hE
      refine s_pickt hE rfl rfl rfl ?_; clear hE a; intro a hE
      refine s_assign hE rfl rfl ?_; clear hE a; intro a hE
      refine q_nil ?_
      replace hE : Env a 17 [(2, _)] := hE.sel [2] rfl
      refine hK2 _ _ ?_
      refine wp_ret ?_
      refine f_ret1 hE rfl rfl ?_
      exact ⟨by simp [widthB, hb5, hb9], hM⟩
    · replace hE := hE'; clear hE'
      refine g_yes hE rfl rfl ?_
      refine s_move hE rfl rfl ?_; clear hE a; intro a hE
      refine g_yes hE rfl rfl ?_
      refine s_bin hE rfl rfl bin_eql rfl ?_; clear hE a; intro a hE
      refine s_pickf hE rfl rfl rfl ?_; clear hE a; intro a hE
      refine s_move hE rfl rfl ?_; clear hE a; intro a hE
      refine hE.split 13 rfl (fun hb13 hE' => ?_) (fun hb13 hE' => ?_)
      · replace hE := hE'; clear hE'
        refine g_no (b := true) hE rfl rfl rfl ?_; clear hE a; intro a hE
        refine g_no (b := true) hE rfl rfl rfl ?_; clear hE a; intro a hE
        refine s_pickt hE rfl rfl rfl ?_; clear hE a; intro a hE
        refine s_assign hE rfl rfl ?_; clear hE a; intro a hE
        refine q_nil ?_
        replace hE : Env a 17 [(2, _)] := hE.sel [2] rfl
        refine hK2 _ _ ?_
        refine wp_ret ?_
        refine f_ret1 hE rfl rfl ?_
        exact ⟨by simp [widthB, hb5, hb9, hb13], hM⟩
      · replace hE := hE'; clear hE'
        refine g_yes hE rfl rfl ?_
        refine s_move hE rfl rfl ?_; clear hE a; intro a hE
        refine g_yes hE rfl rfl ?_
        refine s_bin hE rfl rfl bin_eql rfl ?_; clear hE a; intro a hE
        refine s_pickf hE rfl rfl rfl ?_; clear hE a; intro a hE
        refine s_assign hE rfl rfl ?_; clear hE a; intro a hE
        refine q_nil ?_
        replace hE : Env a 17 [(2, _)] := hE.sel [2] rfl
        refine hK2 _ _ ?_
        refine wp_ret ?_
        refine f_ret1 hE rfl rfl ?_
        exact ⟨by simp [widthB, hb5, hb9, hb13], hM⟩
theorem clone_nil (w : World) : Calls Try.prog 44 #[.slice none 0 0] w fun e w' => ∃ v', e = .returned v' ∧ Mem w [] w' [own v' 1 0 (bv [])] := by
  have hM := Mem.start0 w
  refine f_enter 8 Try.func44 rfl rfl rfl ?_
  intro a hE
  replace hE : Env a 8 [(0, _)] := hE
  refine wp_seq_k (fun K1 hK1 => ?_)
  refine wp_plain [true] rfl rfl ?_
  refine s_assign hE rfl rfl ?_; clear hE a; intro a hE
  refine q_nil ?_
  refine hK1 _ _ ?_
  refine wp_seq_k (fun K2 hK2 => ?_)
  refine wp_seq_k (fun K3 hK3 => ?_)
  refine wp_plain [true, true] rfl rfl ?_
  refine s_move hE rfl rfl ?_; clear hE a; intro a hE
  refine s_bin hE rfl rfl (bins_sl_nil Try.underlying55).1 rfl ?_; clear hE a; intro a hE
  replace hE := hE.cast 4 rfl (show _ = Value.bool true from rfl)
  refine q_nil ?_
  replace hE : Env a 8 [(0, _), (2, _), (4, _)] := hE.sel [0, 2, 4] rfl
  refine hK3 _ _ ?_
  refine wp_cond_true (hE.eval rfl) ?_
  refine wp_seq_k (fun K4 hK4 => ?_)
  refine wp_plain [true] rfl rfl ?_
  refine s_assign hE rfl rfl ?_; clear hE a; intro a hE
  refine q_nil ?_
  refine hK4 _ _ ?_
  refine wp_ret ?_
  refine q_then_r ?_
  refine f_ret1 hE rfl rfl ?_
  exact ⟨_, rfl, hM.addNil 1⟩
theorem clone_some (bs : List UInt8) (p : Addr) (n c : Nat) (w : World) (hr : (rd (.slice (some p) n c) 1 bs.length c (bv bs)).holds w) (hb : bs.length ≤ 140737488355328) : Calls Try.prog 44 #[.slice (some p) n c] w fun e w' => ∃ v', e = .returned v' ∧ Mem w [] w' [own v' 1 bs.length (bv bs)] := by
  have hM := Mem.startR1 hr rfl
  refine f_enter 8 Try.func44 rfl rfl rfl ?_
  intro a hE
  replace hE : Env a 8 [(0, _)] := hE
  refine wp_seq_k (fun K1 hK1 => ?_)
  refine wp_plain [true] rfl rfl ?_
  refine s_assign hE rfl rfl ?_; clear hE a; intro a hE
  refine q_nil ?_
  refine hK1 _ _ ?_
  refine wp_seq_k (fun K2 hK2 => ?_)
  refine wp_seq_k (fun K3 hK3 => ?_)
  refine wp_plain [true, true] rfl rfl ?_
  refine s_move hE rfl rfl ?_; clear hE a; intro a hE
  refine s_bin hE rfl rfl (bins_sl_nil Try.underlying55).1 rfl ?_; clear hE a; intro a hE
  replace hE := hE.cast 4 rfl (show _ = Value.bool false from rfl)
  refine q_nil ?_
  replace hE : Env a 8 [(0, _), (2, _), (4, _)] := hE.sel [0, 2, 4] rfl
  refine hK3 _ _ ?_
  refine wp_cond_false (hE.eval rfl) ?_
  refine wp_skip ?_
  refine hK2 _ _ ?_
  refine wp_seq_k (fun K4 hK4 => ?_)
  refine wp_plain [false, true, false, true] rfl rfl ?_
  refine s_buildSlice (xs := []) ([]) hE hM sl55 rfl rfl rfl (by intro v hv; cases hv) rfl rfl rfl rfl ?_; clear hE a; intro a v5 w1 hE hM'
  clear hM; have hM := hM'; clear hM'
  refine s_move hE rfl rfl ?_; clear hE a; intro a hE
  have hy := hM.get 1 rfl
  refine s_append hE rfl rfl hM sl55 (Src.rd Try.underlying55 hy (bv_one _)) (len47 (by omega)) (by omega) (by intro X h; cases h) rfl ?_; clear hE a hy; intro a v7 w2 hE hM'
  clear hM; have hM := hM'; clear hM'
  refine s_assign hE rfl rfl ?_; clear hE a; intro a hE
  refine q_nil ?_
  replace hE : Env a 8 [(0, _), (2, _), (4, _)] := hE.sel [0, 2, 4] rfl
  refine hK4 _ _ ?_
  refine wp_ret ?_
  refine f_ret1 hE rfl rfl ?_
  refine ⟨_, rfl, ?_⟩
  replace hM := hM.pick [0] rfl
  simpa using hM
theorem clone_c (bs : List UInt8) (v : Value) (c : Nat) (w : World) (hr : (rd v 1 bs.length c (bv bs)).holds w) (hb : bs.length ≤ 140737488355328) : Calls Try.prog 44 #[v] w fun e w' => ∃ v', e = .returned v' ∧ Mem w [] w' [own v' 1 bs.length (bv bs)] := by
  have hr' := hr
  obtain ⟨hl, ⟨p, rfl, h0, rfl⟩ | ⟨b, o, rfl, h1, h2, h3⟩⟩ := hr
  · cases p with
    | none =>
      have : bs = [] := List.eq_nil_of_length_eq_zero h0
      subst this
      exact clone_nil w
    | some p => exact clone_some bs _ _ _ w hr' hb
  · exact clone_some bs _ _ _ w hr' hb
theorem lay_c (v : Value) (bs : List UInt8) (k m : Nat) (w : World) (hv : (own v 1 bs.length (bv bs)).holds w) (hk : k ≤ 8) (hlen : bs.length + k ≤ 140737488355328) : Calls Try.prog 52 #[v, .int .i64 k, .int .u64 m] w fun e w' => ∃ v', e = .returned v' ∧ Mem w (valBlocks v) w' [own v' 1 (bs.length + k) (bv (bs ++ laid k m))] := by
  have hM := Mem.start1 hv
  refine f_enter 25 Try.func52 rfl rfl rfl ?_
  intro a hE
  replace hE : Env a 25 [(0, _), (1, _), (2, _)] := hE
  refine wp_seq_k (fun K1 hK1 => ?_)
  refine wp_plain [true] rfl rfl ?_
  refine s_assign hE rfl rfl ?_; clear hE a; intro a hE
  refine q_nil ?_
  refine hK1 _ _ ?_
  refine wp_seq_k (fun K2 hK2 => ?_)
  refine wp_seq_k (fun K3 hK3 => ?_)
  refine wp_plain [true, true] rfl rfl ?_
  refine s_move hE rfl rfl ?_; clear hE a; intro a hE
  refine s_move hE rfl rfl ?_; clear hE a; intro a hE
  refine q_nil ?_
  refine hK3 _ _ ?_
  refine wp_block ?_
  refine c_loop (fun (i : Nat) a w' => i ≤ k ∧ ∃ v', Env a 25 [(0, v'), (1, .int .i64 k), (2, .int .u64 m), (8, .int .i64 k), (9, .int .i64 i)] ∧ Mem w (valBlocks v) w' [own v' 1 (bs.length + i) (bv (bs ++ (laid k m).take i))]) (fun i => k - i) 0 ⟨Nat.zero_le _, _, hE.sel [0, 1, 2, 8, 9] rfl, by simpa using hM⟩ ?_
  clear hE hM a; rintro i a w2 ⟨hi, v2, hE, hM⟩
  refine wp_seq_k (fun K4 hK4 => ?_)
  refine wp_plain [true] rfl rfl ?_
  refine s_bin hE rfl rfl bin_lss rfl ?_; clear hE a; intro a hE
  refine q_nil ?_
  refine hK4 _ _ ?_
  refine wp_seq_k (fun K5 hK5 => ?_)
  refine hE.split 10 rfl (fun hb10 hE' => ?_) (fun hb10 hE' => ?_)
  · replace hE := hE'; clear hE'
    replace hb10 := of_decide_eq_true hb10
    refine wp_cond_true (hE.eval rfl) ?_
    refine wp_skip ?_
    refine hK5 _ _ ?_
    refine wp_seq_k (fun K6 hK6 => ?_)
    refine wp_block ?_
    refine wp_seq_k (fun K7 hK7 => ?_)
    refine wp_plain [true, true] rfl rfl ?_
    refine s_move hE rfl rfl ?_; clear hE a; intro a hE
    refine s_assign hE rfl rfl ?_; clear hE a; intro a hE
    refine q_nil ?_
    replace hE : Env a 25 [(0, _), (1, _), (2, _), (7, _), (8, _), (9, _), (10, _)] := hE.sel [0, 1, 2, 7, 8, 9, 10] rfl
    refine hK7 _ _ ?_
    refine wp_plain [true, true, true, true, true, true, true, true, true, false, false, true] rfl rfl ?_
    refine s_move hE rfl rfl ?_; clear hE a; intro a hE
    refine s_move hE rfl rfl ?_; clear hE a; intro a hE
    refine s_move hE rfl rfl ?_; clear hE a; intro a hE
    refine s_bin hE rfl rfl (bin_sub (wrap_i64 (by omega) (by omega))) rfl ?_; clear hE a; intro a hE
    refine s_move hE rfl rfl ?_; clear hE a; intro a hE
    refine s_bin hE rfl rfl (bin_sub (wrap_i64 (by omega) (by omega))) rfl ?_; clear hE a; intro a hE
    refine s_bin hE rfl rfl (bin_mul (q := ((8 * (k - 1 - i) : Nat) : Int)) (by rw [wrap_i64 (by omega) (by omega)]; omega)) rfl ?_; clear hE a; intro a hE
    refine s_bin hE rfl rfl (bin_shr_nat rfl (by show _ ≤ 64; omega)) rfl ?_; clear hE a; intro a hE
    refine s_conv hE rfl (cnv_int Try.underlying24 Try.underlying5 (wrap_u8_ofNat _)) rfl ?_; clear hE a; intro a hE
    refine s_buildSlice (xs := [.tmp 20]) (bv [UInt8.ofNat (m / 2 ^ (8 * (k - 1 - i)))]) hE hM sl55 rfl rfl rfl (by intro v hv; simp at hv; subst hv; rfl) rfl rfl rfl rfl ?_; clear hE a; intro a v21 w1 hE hM'
    clear hM; have hM := hM'; clear hM'
    replace hM : Mem _ _ w1 [_, _] := hM.pick [1, 0] rfl
    obtain ⟨cy, hy⟩ := own_rd (hM.get 1 rfl)
    refine s_append hE rfl rfl hM sl55 (Src.rd Try.underlying55 hy (bv_one _)) (len47 (by omega)) (by omega) (by intro X h; cases h) rfl ?_; clear hE a hy; intro a v22 w2 hE hM'
    clear hM; have hM := hM'; clear hM'
    replace hM : Mem _ _ w2 [_] := hM.pick [0] rfl
    refine s_assign hE rfl rfl ?_; clear hE a; intro a hE
    refine q_nil ?_
    replace hE : Env a 25 [(0, _), (1, _), (2, _), (7, _), (8, _), (9, _), (10, _)] := hE.sel [0, 1, 2, 7, 8, 9, 10] rfl
    refine q_block_n ?_
    refine hK6 _ _ ?_
    refine wp_plain [true, true] rfl rfl ?_
    refine s_bin hE rfl rfl (bin_add (wrap_i64 (by omega) (by omega))) rfl ?_; clear hE a; intro a hE
    refine s_move hE rfl rfl ?_; clear hE a; intro a hE
    refine q_nil ?_
    replace hE : Env a 25 [(0, _), (1, _), (2, _), (7, _), (8, _), (9, _), (10, _)] := hE.sel [0, 1, 2, 7, 8, 9, 10] rfl
    replace hE := hE.cast 9 rfl (show _ = Value.int .i64 ((i + 1 : Nat) : Int) from congrArg _ (by omega))
    refine ⟨i + 1, ⟨by omega, _, hE.sel [0, 1, 2, 8, 9] rfl, ?_⟩, by omega⟩
    rw [laid_take_succ (by omega), ← List.append_assoc, bv_append]; exact hM
  · replace hE := hE'; clear hE'
    replace hb10 := of_decide_eq_false hb10
    obtain rfl : i = k := by omega
    refine wp_cond_false (hE.eval rfl) ?_
    refine wp_exit ?_
    refine q_then_e ?_
    refine q_then_e ?_
    refine q_block_x ?_
    refine hK2 _ _ ?_
    refine wp_seq_k (fun K6 hK6 => ?_)
    refine wp_plain [true, true] rfl rfl ?_
    refine s_move hE rfl rfl ?_; clear hE a; intro a hE
    refine s_assign hE rfl rfl ?_; clear hE a; intro a hE
    refine q_nil ?_
    replace hE : Env a 25 [(0, _), (1, _), (2, _), (6, _), (8, _), (9, _), (10, _)] := hE.sel [0, 1, 2, 6, 8, 9, 10] rfl
    refine hK6 _ _ ?_
    refine wp_ret ?_
    refine f_ret1 hE rfl rfl ?_
    refine ⟨_, rfl, ?_⟩
    rw [List.take_of_length_le (by simp)] at hM; exact hM
theorem is_c (b : Nat) (v : Value) (m t : Bool) (w : World) (hB : (blk b [[v], [.bool m], [.bool t]] [1, 1, 1] 88).holds w) : Calls Try.prog 53 #[.pointer (some ⟨b, 0, none⟩)] w fun e w' => e = .returned (.bool (m && !t)) ∧ Mem w [] w' [] := by
  have hM := Mem.startR1 (e := blkR b [[v], [.bool m], [.bool t]] [1, 1, 1] 88) hB rfl
  refine f_enter 18 Try.func53 rfl rfl rfl ?_
  intro a hE
  replace hE : Env a 18 [(0, _)] := hE
  refine wp_seq_k (fun K1 hK1 => ?_)
  refine wp_plain [true] rfl rfl ?_
  refine s_assign hE rfl rfl ?_; clear hE a; intro a hE
  refine q_nil ?_
  refine hK1 _ _ ?_
  refine wp_seq_k (fun K2 hK2 => ?_)
  refine wp_plain [true, true, true, true, true, true, true, true, true, true, true, true, true, true, true, true] rfl rfl ?_
  refine s_move hE rfl rfl ?_; clear hE a; intro a hE
  refine s_bin hE rfl rfl (bins_ptr_nil Try.underlying69).2 rfl ?_; clear hE a; intro a hE
  refine s_move hE rfl rfl ?_; clear hE a; intro a hE
  refine g_yes hE rfl rfl ?_
  refine s_move hE rfl rfl ?_; clear hE a; intro a hE
  refine g_yes hE rfl rfl ?_
  refine s_nilCheck hE rfl rfl ?_; clear hE a; intro a hE
  refine g_yes hE rfl rfl ?_
  refine s_fieldAddr hE rfl fo88_1 rfl ?_; clear hE a; intro a hE
  refine g_yes hE rfl rfl ?_
  refine s_load1 hE rfl (blkR_blk (hM.get 0 rfl)) rfl one4 (by intro X h; cases h) rfl ?_; clear hE a; intro a hE
  refine s_pickt hE rfl rfl rfl ?_; clear hE a; intro a hE
  refine s_move hE rfl rfl ?_; clear hE a; intro a hE
  refine hE.split 11 rfl (fun hb11 hE' => ?_) (fun hb11 hE' => ?_)
  · replace hE := hE'; clear hE'
    refine g_yes hE rfl rfl ?_
    refine s_move hE rfl rfl ?_; clear hE a; intro a hE
    refine g_yes hE rfl rfl ?_
    refine s_nilCheck hE rfl rfl ?_; clear hE a; intro a hE
    refine g_yes hE rfl rfl ?_
    refine s_fieldAddr hE rfl fo88_2 rfl ?_; clear hE a; intro a hE
    refine g_yes hE rfl rfl ?_
    refine s_load1 hE rfl (blkR_blk (hM.get 0 rfl)) rfl one4 (by intro X h; cases h) rfl ?_; clear hE a; intro a hE
    refine g_yes hE rfl rfl ?_
    refine s_not hE rfl rfl ?_; clear hE a; intro a hE
    refine s_pickt hE rfl rfl rfl ?_; clear hE a; intro a hE
    refine s_assign hE rfl rfl ?_; clear hE a; intro a hE
    refine q_nil ?_
    replace hE : Env a 18 [(2, _)] := hE.sel [2] rfl
    refine hK2 _ _ ?_
    refine wp_ret ?_
    refine f_ret1 hE rfl rfl ?_
    exact ⟨by simp [hb11], hM.nil⟩
  · replace hE := hE'; clear hE'
    refine g_no (b := false) hE rfl rfl rfl ?_; clear hE a; intro a hE
    refine g_no (b := false) hE rfl rfl rfl ?_; clear hE a; intro a hE
    refine g_no (b := false) hE rfl rfl rfl ?_; clear hE a; intro a hE
    refine g_no (b := false) hE rfl rfl rfl ?_; clear hE a; intro a hE
    refine g_no (b := false) hE rfl rfl rfl ?_; clear hE a; intro a hE
    refine s_pickf hE rfl rfl rfl ?_; clear hE a; intro a hE
    refine s_assign hE rfl rfl ?_; clear hE a; intro a hE
    refine q_nil ?_
    replace hE : Env a 18 [(2, _)] := hE.sel [2] rfl
    refine hK2 _ _ ?_
    refine wp_ret ?_
    refine f_ret1 hE rfl rfl ?_
    exact ⟨by simp [hb11], hM.nil⟩
theorem has_c (b : Nat) (v : Value) (m t : Bool) (bs : List UInt8) (c : Nat) (i : Int) (w : World) (hB : (blk b [[v], [.bool m], [.bool t]] [1, 1, 1] 88).holds w) (hr : (rd v 1 bs.length c (bv bs)).holds w) : Calls Try.prog 48 #[.pointer (some ⟨b, 0, none⟩), .int .i64 i] w fun e w' => e = .returned (.bool (m && !t && decide (0 ≤ i) && decide (i ≤ bs.length))) ∧ Mem w [] w' [] := by
  have hM := Mem.startR2 (e := blkR b [[v], [.bool m], [.bool t]] [1, 1, 1] 88) (f := rd v 1 bs.length c (bv bs)) hB hr rfl rfl
  refine f_enter 20 Try.func48 rfl rfl rfl ?_
  intro a hE
  replace hE : Env a 20 [(0, _), (1, _)] := hE
  refine wp_seq_k (fun K1 hK1 => ?_)
  refine wp_plain [true] rfl rfl ?_
  refine s_assign hE rfl rfl ?_; clear hE a; intro a hE
  refine q_nil ?_
  refine hK1 _ _ ?_
  refine wp_seq_k (fun K2 hK2 => ?_)
  refine wp_plain [true, false, true, true, true, true, true, true, true, true, true, true, true, true, true, true] rfl rfl ?_
  refine s_move hE rfl rfl ?_; clear hE a; intro a hE
  refine s_call hE rfl Try.call53 (is_c b v m t _ (blkR_blk (hM.get 0 rfl))) rfl ?_
  rintro e w1 ⟨rfl, hN⟩
  refine ⟨_, rfl, trivial, ?_⟩; clear hE a; intro a hE
  replace hM : Mem _ _ w1 [_, _] := hM.call0 hN trivial; clear hN
  refine s_move hE rfl rfl ?_; clear hE a; intro a hE
  refine hE.split 7 rfl (fun hb7 hE' => ?_) (fun hb7 hE' => ?_)
  · replace hE := hE'; clear hE'
    refine g_yes hE rfl rfl ?_
    refine s_move hE rfl rfl ?_; clear hE a; intro a hE
    refine g_yes hE rfl rfl ?_
    refine s_bin hE rfl rfl bin_geq rfl ?_; clear hE a; intro a hE
    refine s_pickt hE rfl rfl rfl ?_; clear hE a; intro a hE
    refine s_move hE rfl rfl ?_; clear hE a; intro a hE
    refine hE.split 11 rfl (fun hb11 hE' => ?_) (fun hb11 hE' => ?_)
    · replace hE := hE'; clear hE'
      refine g_yes hE rfl rfl ?_
      refine s_move hE rfl rfl ?_; clear hE a; intro a hE
      refine g_yes hE rfl rfl ?_
      refine s_move hE rfl rfl ?_; clear hE a; intro a hE
      refine g_yes hE rfl rfl ?_
      refine s_nilCheck hE rfl rfl ?_; clear hE a; intro a hE
      refine g_yes hE rfl rfl ?_
      refine s_fieldAddr hE rfl fo88_0 rfl ?_; clear hE a; intro a hE
      refine g_yes hE rfl rfl ?_
      refine s_load1 hE rfl (blkR_blk (hM.get 0 rfl)) rfl one55 (by intro X h; cases h) rfl ?_; clear hE a; intro a hE
      refine g_yes hE rfl rfl ?_
      refine s_len hE rfl Try.underlying55 (rd_slice (hM.get 1 rfl)) rfl ?_; clear hE a; intro a hE
      refine g_yes hE rfl rfl ?_
      refine s_bin hE rfl rfl bin_leq rfl ?_; clear hE a; intro a hE
      refine s_pickt hE rfl rfl rfl ?_; clear hE a; intro a hE
      refine s_assign hE rfl rfl ?_; clear hE a; intro a hE
      refine q_nil ?_
      replace hE : Env a 20 [(4, _)] := hE.sel [4] rfl
      refine hK2 _ _ ?_
      refine wp_ret ?_
      refine f_ret1 hE rfl rfl ?_
      exact ⟨by simp [hb7, hb11], hM.nil⟩
    · replace hE := hE'; clear hE'
      refine g_no (b := false) hE rfl rfl rfl ?_; clear hE a; intro a hE
      refine g_no (b := false) hE rfl rfl rfl ?_; clear hE a; intro a hE
      refine g_no (b := false) hE rfl rfl rfl ?_; clear hE a; intro a hE
      refine g_no (b := false) hE rfl rfl rfl ?_; clear hE a; intro a hE
      refine g_no (b := false) hE rfl rfl rfl ?_; clear hE a; intro a hE
      refine g_no (b := false) hE rfl rfl rfl ?_; clear hE a; intro a hE
      refine g_no (b := false) hE rfl rfl rfl ?_; clear hE a; intro a hE
      refine s_pickf hE rfl rfl rfl ?_; clear hE a; intro a hE
      refine s_assign hE rfl rfl ?_; clear hE a; intro a hE
      refine q_nil ?_
      replace hE : Env a 20 [(4, _)] := hE.sel [4] rfl
      refine hK2 _ _ ?_
      refine wp_ret ?_
      refine f_ret1 hE rfl rfl ?_
      exact ⟨by simp [hb7, hb11], hM.nil⟩
  · replace hE := hE'; clear hE'
    refine g_no (b := false) hE rfl rfl rfl ?_; clear hE a; intro a hE
    refine g_no (b := false) hE rfl rfl rfl ?_; clear hE a; intro a hE
    refine s_pickf hE rfl rfl rfl ?_; clear hE a; intro a hE
    refine s_move hE rfl rfl ?_; clear hE a; intro a hE
    refine g_no (b := false) hE rfl rfl rfl ?_; clear hE a; intro a hE
    refine g_no (b := false) hE rfl rfl rfl ?_; clear hE a; intro a hE
    refine g_no (b := false) hE rfl rfl rfl ?_; clear hE a; intro a hE
    refine g_no (b := false) hE rfl rfl rfl ?_; clear hE a; intro a hE
    refine g_no (b := false) hE rfl rfl rfl ?_; clear hE a; intro a hE
    refine g_no (b := false) hE rfl rfl rfl ?_; clear hE a; intro a hE
    refine g_no (b := false) hE rfl rfl rfl ?_; clear hE a; intro a hE
    refine s_pickf hE rfl rfl rfl ?_; clear hE a; intro a hE
    refine s_assign hE rfl rfl ?_; clear hE a; intro a hE
    refine q_nil ?_
    replace hE : Env a 20 [(4, _)] := hE.sel [4] rfl
    refine hK2 _ _ ?_
    refine wp_ret ?_
    refine f_ret1 hE rfl rfl ?_
    exact ⟨by simp [hb7], hM.nil⟩
theorem tear_c (b : Nat) (v : Value) (m t : Bool) (w : World) (hB : (blk b [[v], [.bool m], [.bool t]] [1, 1, 1] 88).holds w) : Calls Try.prog 49 #[.pointer (some ⟨b, 0, none⟩)] w fun e w' => e = .returned (.tuple #[]) ∧ Mem w [b] w' [blk b [[v], [.bool m], [.bool true]] [1, 1, 1] 88] := by
  have hM := Mem.startB hB
  refine f_enter 7 Try.func49 rfl rfl rfl ?_
  intro a hE
  replace hE : Env a 7 [(0, _)] := hE
  refine wp_seq_k (fun K1 hK1 => ?_)
  refine wp_plain [true, true] rfl rfl ?_
  refine s_move hE rfl rfl ?_; clear hE a; intro a hE
  refine s_bin hE rfl rfl (bins_ptr_nil Try.underlying69).2 rfl ?_; clear hE a; intro a hE
  refine q_nil ?_
  replace hE : Env a 7 [(0, _), (3, _)] := hE.sel [0, 3] rfl
  refine hK1 _ _ ?_
  refine wp_cond_true (hE.eval rfl) ?_
  refine wp_plain [true, true, true, false] rfl rfl ?_
  refine s_move hE rfl rfl ?_; clear hE a; intro a hE
  refine s_nilCheck hE rfl rfl ?_; clear hE a; intro a hE
  refine s_fieldAddr hE rfl fo88_2 rfl ?_; clear hE a; intro a hE
  refine s_store1 2 hE rfl rfl hM rfl rfl sz4 rfl rfl (by intro X h; cases h) ?_; intro w1 hM'; clear hM; have hM := hM'; clear hM'
  refine q_nil ?_
  replace hE : Env a 7 [(0, _), (3, _)] := hE.sel [0, 3] rfl
  refine (f_ret0 hE rfl ?_).2
  exact ⟨rfl, hM⟩
theorem tapNum_ok (b : Nat) (bb : List Nat) (bs : List UInt8) (k : Nat) (w : World) (hT : (tap b bb bs false 88).holds w) (hw : widthB k = true) (hk : k ≤ bs.length) : Calls Try.prog 42 #[.pointer (some ⟨b, 0, none⟩), .int .i64 k] w fun e w' => e = .returned (.int .u64 ((val (bs.take k) : Nat) : Int)) ∧ Mem w [b] w' [tap b bb (bs.drop k) false 88] := by
  have hM0 := Mem.startT hT
  obtain ⟨v, c, hvb, hM⟩ := hM0.tapeOpen
  clear hM0
  have hlc := rd_len (hM.get 1 rfl)
  have hk8 := widthB_le hw
  refine f_enter 44 Try.func42 rfl rfl rfl ?_
  intro a hE
  replace hE : Env a 44 [(0, _), (1, _)] := hE
  refine wp_seq_k (fun K1 hK1 => ?_)
  refine wp_plain [true] rfl rfl ?_
  refine s_assign hE rfl rfl ?_; clear hE a; intro a hE
  refine q_nil ?_
  refine hK1 _ _ ?_
  refine wp_seq_k (fun K2 hK2 => ?_)
  refine wp_seq_k (fun K3 hK3 => ?_)
  refine wp_plain [true, false, true, true, true, true, false, true, true] rfl rfl ?_
  refine s_move hE rfl rfl ?_; clear hE a; intro a hE
  refine s_call hE rfl Try.call50 (width_c _ _) rfl ?_
  rintro e w1 ⟨rfl, hN⟩
  refine ⟨_, rfl, trivial, ?_⟩; clear hE a; intro a hE
  replace hM : Mem _ _ w1 [_, _, _] := hM.call0 hN trivial; clear hN
  refine s_not hE rfl rfl ?_; clear hE a; intro a hE
  refine s_move hE rfl rfl ?_; clear hE a; intro a hE
  replace hE := hE.cast 10 rfl (show _ = Value.bool false from (by rw [hw]; rfl))
  refine g_yes hE rfl rfl ?_
  refine s_move hE rfl rfl ?_; clear hE a; intro a hE
  refine g_yes hE rfl rfl ?_
  refine s_move hE rfl rfl ?_; clear hE a; intro a hE
  refine g_yes hE rfl rfl ?_
  refine s_call hE rfl Try.call48 (has_c b v true false bs c _ _ (hM.get 0 rfl) (hM.get 1 rfl)) rfl ?_
  rintro e w2 ⟨rfl, hN⟩
  refine ⟨_, rfl, trivial, ?_⟩; clear hE a; intro a hE
  replace hM : Mem _ _ w2 [_, _, _] := hM.call0 hN trivial; clear hN
  refine g_yes hE rfl rfl ?_
  refine s_not hE rfl rfl ?_; clear hE a; intro a hE
  refine s_pickf hE rfl rfl rfl ?_; clear hE a; intro a hE
  refine q_nil ?_
  replace hE : Env a 44 [(0, _), (1, _), (4, _), (15, _)] := hE.sel [0, 1, 4, 15] rfl
  refine hK3 _ _ ?_
  replace hE := hE.cast 15 rfl (show _ = Value.bool false from (congrArg Value.bool (by simp; omega)))
  refine wp_cond_false (hE.eval rfl) ?_
  refine wp_skip ?_
  refine hK2 _ _ ?_
  refine wp_seq_k (fun K4 hK4 => ?_)
  refine wp_plain [true] rfl rfl ?_
  refine s_assign hE rfl rfl ?_; clear hE a; intro a hE
  refine q_nil ?_
  refine hK4 _ _ ?_
  refine wp_seq_k (fun K5 hK5 => ?_)
  refine wp_seq_k (fun K6 hK6 => ?_)
  refine wp_plain [true, true] rfl rfl ?_
  refine s_move hE rfl rfl ?_; clear hE a; intro a hE
  refine s_move hE rfl rfl ?_; clear hE a; intro a hE
  refine q_nil ?_
  refine hK6 _ _ ?_
  refine wp_block ?_
  refine c_loop (fun (i : Nat) a w' => i ≤ k ∧ Env a 44 [(0, .pointer (some ⟨b, 0, none⟩)), (1, .int .i64 k), (5, .int .u64 ((val (bs.take i) : Nat) : Int)), (18, .int .i64 k), (19, .int .i64 i)] ∧ Mem w [b] w' [blk b [[v], [.bool true], [.bool false]] [1, 1, 1] 88, rd v 1 bs.length c (bv bs), shr bb]) (fun i => k - i) 0 ⟨Nat.zero_le _, hE.sel [0, 1, 5, 18, 19] rfl, hM⟩ ?_
  clear hE hM a; rintro i a w5 ⟨hi, hE, hM⟩
  refine wp_seq_k (fun K7 hK7 => ?_)
  refine wp_plain [true] rfl rfl ?_
  refine s_bin hE rfl rfl bin_lss rfl ?_; clear hE a; intro a hE
  refine q_nil ?_
  refine hK7 _ _ ?_
  refine wp_seq_k (fun K8 hK8 => ?_)
  refine hE.split 20 rfl (fun hb20 hE' => ?_) (fun hb20 hE' => ?_)
  · replace hE := hE'; clear hE'
    replace hb20 := of_decide_eq_true hb20
    refine wp_cond_true (hE.eval rfl) ?_
    refine wp_skip ?_
    refine hK8 _ _ ?_
    refine wp_seq_k (fun K9 hK9 => ?_)
    refine wp_block ?_
    refine wp_seq_k (fun K10 hK10 => ?_)
    refine wp_plain [true, true] rfl rfl ?_
    refine s_move hE rfl rfl ?_; clear hE a; intro a hE
    refine s_assign hE rfl rfl ?_; clear hE a; intro a hE
    refine q_nil ?_
    replace hE : Env a 44 [(0, _), (1, _), (5, _), (6, _), (18, _), (19, _), (20, _)] := hE.sel [0, 1, 5, 6, 18, 19, 20] rfl
    refine hK10 _ _ ?_
    refine wp_plain [true, true, true, true, true, true, true, true, true, true, true, true] rfl rfl ?_
    refine s_move hE rfl rfl ?_; clear hE a; intro a hE
    refine s_bin hE rfl rfl (bin_shl_nat (s := 8) rfl (by show _ ≤ 64; omega) (wrap_u64 (by omega) (by have := val_lt56 (bs := bs.take i) (by simp; omega); omega))) rfl ?_; clear hE a; intro a hE
    refine s_move hE rfl rfl ?_; clear hE a; intro a hE
    refine s_nilCheck hE rfl rfl ?_; clear hE a; intro a hE
    refine s_fieldAddr hE rfl fo88_0 rfl ?_; clear hE a; intro a hE
    refine s_load1 hE rfl (hM.get 0 rfl) rfl one55 (by intro X h; cases h) rfl ?_; clear hE a; intro a hE
    refine s_move hE rfl rfl ?_; clear hE a; intro a hE
    refine s_indexRd (j := i) hE rfl (hM.get 1 rfl) rfl slt55 (by first | rfl | omega) (by first | omega | (simp; omega) | decide) rfl ?_; clear hE a; intro a p29 hE hc29 hp29
    rw [bv_elem (by omega)] at hc29
    refine s_loadAt1 hE rfl hc29 one5 (by intro X h; cases h) rfl ?_; clear hE a; intro a hE
    refine s_conv hE rfl (cnv_int Try.underlying5 Try.underlying24 (wrap_u64 (by omega) (by have := (bs.getD i 0).toNat_lt; omega))) rfl ?_; clear hE a; intro a hE
    refine s_bin hE rfl rfl (show Bin _ _ _ _ _ (.int .u64 (((val (bs.take i) * 256 + (bs.getD i 0).toNat : Nat)) : Int)) from by have h1 := val_lt56 (bs := bs.take i) (by simp; omega); have h2 := (bs.getD i 0).toNat_lt; have h3 := shl_or (m := val (bs.take i)) (i := 8) h2; rw [← h3]; exact or_nat_u64 (by omega) (by omega)) rfl ?_; clear hE a; intro a hE
    refine s_assign hE rfl rfl ?_; clear hE a; intro a hE
    refine q_nil ?_
    replace hE : Env a 44 [(0, _), (1, _), (5, _), (6, _), (18, _), (19, _), (20, _)] := hE.sel [0, 1, 5, 6, 18, 19, 20] rfl
    refine q_block_n ?_
    refine hK9 _ _ ?_
    refine wp_plain [true, true] rfl rfl ?_
    refine s_bin hE rfl rfl (bin_add (wrap_i64 (by omega) (by omega))) rfl ?_; clear hE a; intro a hE
    refine s_move hE rfl rfl ?_; clear hE a; intro a hE
    refine q_nil ?_
    replace hE : Env a 44 [(0, _), (1, _), (5, _), (6, _), (18, _), (19, _), (20, _)] := hE.sel [0, 1, 5, 6, 18, 19, 20] rfl
    replace hE := hE.cast 19 rfl (show _ = Value.int .i64 ((i + 1 : Nat) : Int) from congrArg _ (by omega))
    refine ⟨i + 1, ⟨by omega, (hE.cast 5 rfl ?_).sel [0, 1, 5, 18, 19] rfl, hM⟩, by omega⟩
    rw [val_take_succ (by omega)]
  · replace hE := hE'; clear hE'
    replace hb20 := of_decide_eq_false hb20
    obtain rfl : i = k := by omega
    refine wp_cond_false (hE.eval rfl) ?_
    refine wp_exit ?_
    refine q_then_e ?_
    refine q_then_e ?_
    refine q_block_x ?_
    refine hK5 _ _ ?_
    refine wp_seq_k (fun K9 hK9 => ?_)
    refine wp_plain [true, true, true, true, true, true, true, true, true, false] rfl rfl ?_
    refine s_move hE rfl rfl ?_; clear hE a; intro a hE
    refine s_move hE rfl rfl ?_; clear hE a; intro a hE
    refine s_nilCheck hE rfl rfl ?_; clear hE a; intro a hE
    refine s_fieldAddr hE rfl fo88_0 rfl ?_; clear hE a; intro a hE
    refine s_load1 hE rfl (hM.get 0 rfl) rfl one55 (by intro X h; cases h) rfl ?_; clear hE a; intro a hE
    refine s_move hE rfl rfl ?_; clear hE a; intro a hE
    refine s_slice (l := i) (h := bs.length) (mx' := c) hE rfl (hM.get 1 rfl) slt55 ⟨_, rfl⟩ rfl rfl (by simp) (by omega) (by omega) (by omega) (by omega) rfl ?_; clear hE a; intro a v2 hE hr40 hvb40
    replace hr40 := rd_drop rfl (by omega) hr40
    replace hM := hM.addPart 1 rfl hr40 hvb40; clear hr40
    refine s_nilCheck hE rfl rfl ?_; clear hE a; intro a hE
    refine s_fieldAddr hE rfl fo88_0 rfl ?_; clear hE a; intro a hE
    replace hM : Mem _ _ w5 [_, _, _, _] := hM.pick [1, 0, 2, 3] rfl
    refine s_store1 0 hE rfl rfl hM (rd_one (hM.get 1 rfl)).1 (rd_one (hM.get 1 rfl)).2 sz55 rfl rfl (by intro X h; cases h) ?_; intro w3 hM'; clear hM; have hM := hM'; clear hM'
    refine q_nil ?_
    replace hE : Env a 44 [(0, _), (1, _), (5, _), (18, _), (19, _), (20, _)] := hE.sel [0, 1, 5, 18, 19, 20] rfl
    refine hK9 _ _ ?_
    refine wp_seq_k (fun K10 hK10 => ?_)
    refine wp_plain [true, true] rfl rfl ?_
    refine s_move hE rfl rfl ?_; clear hE a; intro a hE
    refine s_assign hE rfl rfl ?_; clear hE a; intro a hE
    refine q_nil ?_
    replace hE : Env a 44 [(0, _), (1, _), (4, _), (5, _), (18, _), (19, _), (20, _)] := hE.sel [0, 1, 4, 5, 18, 19, 20] rfl
    refine hK10 _ _ ?_
    refine wp_ret ?_
    refine f_ret1 hE rfl rfl ?_
    refine ⟨rfl, ?_⟩
    exact (hM.pick [0, 1, 3] rfl).tapeShut (fun x hx => hvb x (hvb40 x hx))
theorem tapNum_bad (b : Nat) (bb : List Nat) (bs : List UInt8) (torn : Bool) (x : Int) (w : World) (hT : (tap b bb bs torn 88).holds w) (h : (widthB x && (!torn && decide (0 ≤ x) && decide (x ≤ (bs.length : Int)))) = false) : Calls Try.prog 42 #[.pointer (some ⟨b, 0, none⟩), .int .i64 x] w fun e w' => e = .returned (.int .u64 0) ∧ Mem w [b] w' [tap b bb bs true 88] := by
  have hM0 := Mem.startT hT
  obtain ⟨v, c, hvb, hM⟩ := hM0.tapeOpen
  clear hM0
  have hlc := rd_len (hM.get 1 rfl)
  refine f_enter 44 Try.func42 rfl rfl rfl ?_
  intro a hE
  replace hE : Env a 44 [(0, _), (1, _)] := hE
  refine wp_seq_k (fun K1 hK1 => ?_)
  refine wp_plain [true] rfl rfl ?_
  refine s_assign hE rfl rfl ?_; clear hE a; intro a hE
  refine q_nil ?_
  refine hK1 _ _ ?_
  refine wp_seq_k (fun K2 hK2 => ?_)
  refine wp_seq_k (fun K3 hK3 => ?_)
  refine wp_plain [true, false, true, true, true, true, false, true, true] rfl rfl ?_
  refine s_move hE rfl rfl ?_; clear hE a; intro a hE
  refine s_call hE rfl Try.call50 (width_c _ _) rfl ?_
  rintro e w1 ⟨rfl, hN⟩
  refine ⟨_, rfl, trivial, ?_⟩; clear hE a; intro a hE
  replace hM : Mem _ _ w1 [_, _, _] := hM.call0 hN trivial; clear hN
  refine s_not hE rfl rfl ?_; clear hE a; intro a hE
  refine s_move hE rfl rfl ?_; clear hE a; intro a hE
  refine hE.split 10 rfl (fun hb10 hE' => ?_) (fun hb10 hE' => ?_)
  · replace hE := hE'; clear hE'
    refine g_no (b := true) hE rfl rfl rfl ?_; clear hE a; intro a hE
    refine g_no (b := true) hE rfl rfl rfl ?_; clear hE a; intro a hE
    refine g_no (b := true) hE rfl rfl rfl ?_; clear hE a; intro a hE
    refine g_no (b := true) hE rfl rfl rfl ?_; clear hE a; intro a hE
    refine s_pickt hE rfl rfl rfl ?_; clear hE a; intro a hE
    refine q_nil ?_
    replace hE : Env a 44 [(0, _), (1, _), (4, _), (15, _)] := hE.sel [0, 1, 4, 15] rfl
    refine hK3 _ _ ?_
    refine wp_cond_true (hE.eval rfl) ?_
    refine wp_seq_k (fun K4 hK4 => ?_)
    refine wp_plain [true, false] rfl rfl ?_
    refine s_move hE rfl rfl ?_; clear hE a; intro a hE
    refine s_call hE rfl Try.call49 (tear_c b v true torn _ (hM.get 0 rfl)) rfl ?_
    rintro e w2 ⟨rfl, hN⟩
    refine ⟨_, rfl, trivial, ?_⟩; clear hE a; intro a hE
    replace hM : Mem _ _ w2 [_, _, _] := hM.call1' hN ⟨rfl, trivial⟩; clear hN
    refine q_nil ?_
    replace hE : Env a 44 [(0, _), (1, _), (4, _), (15, _)] := hE.sel [0, 1, 4, 15] rfl
    refine hK4 _ _ ?_
    refine wp_seq_k (fun K5 hK5 => ?_)
    refine wp_plain [true] rfl rfl ?_
    refine s_assign hE rfl rfl ?_; clear hE a; intro a hE
    refine q_nil ?_
    refine hK5 _ _ ?_
    refine wp_ret ?_
    refine q_then_r ?_
    refine f_ret1 hE rfl rfl ?_
    exact ⟨rfl, (hM.pick [0, 1, 2] rfl).tapeShut hvb⟩
  · replace hE := hE'; clear hE'
    refine g_yes hE rfl rfl ?_
    refine s_move hE rfl rfl ?_; clear hE a; intro a hE
    refine g_yes hE rfl rfl ?_
    refine s_move hE rfl rfl ?_; clear hE a; intro a hE
    refine g_yes hE rfl rfl ?_
    refine s_call hE rfl Try.call48 (has_c b v true torn bs c _ _ (hM.get 0 rfl) (hM.get 1 rfl)) rfl ?_
    rintro e w2 ⟨rfl, hN⟩
    refine ⟨_, rfl, trivial, ?_⟩; clear hE a; intro a hE
    replace hM : Mem _ _ w2 [_, _, _] := hM.call0 hN trivial; clear hN
    refine g_yes hE rfl rfl ?_
    refine s_not hE rfl rfl ?_; clear hE a; intro a hE
    refine s_pickf hE rfl rfl rfl ?_; clear hE a; intro a hE
    refine q_nil ?_
    replace hE : Env a 44 [(0, _), (1, _), (4, _), (15, _)] := hE.sel [0, 1, 4, 15] rfl
    refine hK3 _ _ ?_
    refine hE.split 15 rfl (fun hb15 hE' => ?_) (fun hb15 hE' => ?_)
    · replace hE := hE'; clear hE'
      refine wp_cond_true (hE.eval rfl) ?_
      refine wp_seq_k (fun K4 hK4 => ?_)
      refine wp_plain [true, false] rfl rfl ?_
      refine s_move hE rfl rfl ?_; clear hE a; intro a hE
      refine s_call hE rfl Try.call49 (tear_c b v true torn _ (hM.get 0 rfl)) rfl ?_
      rintro e w3 ⟨rfl, hN⟩
      refine ⟨_, rfl, trivial, ?_⟩; clear hE a; intro a hE
      replace hM : Mem _ _ w3 [_, _, _] := hM.call1' hN ⟨rfl, trivial⟩; clear hN
      refine q_nil ?_
      replace hE : Env a 44 [(0, _), (1, _), (4, _), (15, _)] := hE.sel [0, 1, 4, 15] rfl
      refine hK4 _ _ ?_
      refine wp_seq_k (fun K5 hK5 => ?_)
      refine wp_plain [true] rfl rfl ?_
      refine s_assign hE rfl rfl ?_; clear hE a; intro a hE
      refine q_nil ?_
      refine hK5 _ _ ?_
      refine wp_ret ?_
      refine q_then_r ?_
      refine f_ret1 hE rfl rfl ?_
      exact ⟨rfl, (hM.pick [0, 1, 2] rfl).tapeShut hvb⟩
    · replace hE := hE'; clear hE'
      exact absurd h (by rw [not_false' hb10]; rw [Bool.true_and] at hb15 ⊢; rw [not_false' hb15]; decide)
theorem tapBytes_ok (b : Nat) (bb : List Nat) (bs : List UInt8) (k : Nat) (w : World) (hT : (tap b bb bs false 88).holds w) (hk : k ≤ bs.length) : Calls Try.prog 41 #[.pointer (some ⟨b, 0, none⟩), .int .i64 k] w fun e w' => ∃ v', e = .returned v' ∧ (∀ x, x ∈ rdB v' k → x ∈ bb) ∧ Mem w [b] w' [rd v' 1 (bs.take k).length k (bv (bs.take k)), tap b bb (bs.drop k) false 88] := by
  have hM0 := Mem.startT hT
  obtain ⟨v, c, hvb, hM⟩ := hM0.tapeOpen
  clear hM0
  have hlc := rd_len (hM.get 1 rfl)
  refine f_enter 29 Try.func41 rfl rfl rfl ?_
  intro a hE
  replace hE : Env a 29 [(0, _), (1, _)] := hE
  refine wp_seq_k (fun K1 hK1 => ?_)
  refine wp_plain [true] rfl rfl ?_
  refine s_assign hE rfl rfl ?_; clear hE a; intro a hE
  refine q_nil ?_
  refine hK1 _ _ ?_
  refine wp_seq_k (fun K2 hK2 => ?_)
  refine wp_seq_k (fun K3 hK3 => ?_)
  refine wp_plain [true, true, false, true] rfl rfl ?_
  refine s_move hE rfl rfl ?_; clear hE a; intro a hE
  refine s_move hE rfl rfl ?_; clear hE a; intro a hE
  refine s_call hE rfl Try.call48 (has_c b v true false bs c _ _ (hM.get 0 rfl) (hM.get 1 rfl)) rfl ?_
  rintro e w1 ⟨rfl, hN⟩
  refine ⟨_, rfl, trivial, ?_⟩; clear hE a; intro a hE
  replace hM : Mem _ _ w1 [_, _, _] := hM.call0 hN trivial; clear hN
  refine s_not hE rfl rfl ?_; clear hE a; intro a hE
  refine q_nil ?_
  replace hE : Env a 29 [(0, _), (1, _), (4, _), (9, _)] := hE.sel [0, 1, 4, 9] rfl
  refine hK3 _ _ ?_
  replace hE := hE.cast 9 rfl (show _ = Value.bool false from (congrArg Value.bool (by simp; omega)))
  refine wp_cond_false (hE.eval rfl) ?_
  refine wp_skip ?_
  refine hK2 _ _ ?_
  refine wp_seq_k (fun K4 hK4 => ?_)
  refine wp_plain [true, true, true, true, true, true, true, true] rfl rfl ?_
  refine s_move hE rfl rfl ?_; clear hE a; intro a hE
  refine s_nilCheck hE rfl rfl ?_; clear hE a; intro a hE
  refine s_fieldAddr hE rfl fo88_0 rfl ?_; clear hE a; intro a hE
  refine s_load1 hE rfl (hM.get 0 rfl) rfl one55 (by intro X h; cases h) rfl ?_; clear hE a; intro a hE
  refine s_move hE rfl rfl ?_; clear hE a; intro a hE
  refine s_move hE rfl rfl ?_; clear hE a; intro a hE
  refine s_slice (l := 0) (h := k) (mx' := k) hE rfl (hM.get 1 rfl) slt55 rfl ⟨_, rfl⟩ ⟨_, rfl⟩ (by simp) (by omega) (by omega) (by omega) (by omega) rfl ?_; clear hE a; intro a v1 hE hr18 hvb18
  replace hr18 := rd_take (by omega) hr18
  replace hM := hM.addPart 1 rfl hr18 hvb18; clear hr18
  refine s_assign hE rfl rfl ?_; clear hE a; intro a hE
  refine q_nil ?_
  replace hE : Env a 29 [(0, _), (1, _), (4, _), (5, _), (9, _)] := hE.sel [0, 1, 4, 5, 9] rfl
  refine hK4 _ _ ?_
  refine wp_seq_k (fun K5 hK5 => ?_)
  refine wp_plain [true, true, true, true, true, true, true, true, true, false] rfl rfl ?_
  refine s_move hE rfl rfl ?_; clear hE a; intro a hE
  refine s_move hE rfl rfl ?_; clear hE a; intro a hE
  refine s_nilCheck hE rfl rfl ?_; clear hE a; intro a hE
  refine s_fieldAddr hE rfl fo88_0 rfl ?_; clear hE a; intro a hE
  refine s_load1 hE rfl (hM.get 1 rfl) rfl one55 (by intro X h; cases h) rfl ?_; clear hE a; intro a hE
  refine s_move hE rfl rfl ?_; clear hE a; intro a hE
  refine s_slice (l := k) (h := bs.length) (mx' := c) hE rfl (hM.get 2 rfl) slt55 ⟨_, rfl⟩ rfl rfl (by simp) (by omega) (by omega) (by omega) (by omega) rfl ?_; clear hE a; intro a v2 hE hr25 hvb25
  replace hr25 := rd_drop rfl (by omega) hr25
  replace hM := hM.addPart 2 rfl hr25 hvb25; clear hr25
  refine s_nilCheck hE rfl rfl ?_; clear hE a; intro a hE
  refine s_fieldAddr hE rfl fo88_0 rfl ?_; clear hE a; intro a hE
  replace hM : Mem _ _ w1 [_, _, _, _, _] := hM.pick [2, 0, 1, 3, 4] rfl
  refine s_store1 0 hE rfl rfl hM (rd_one (hM.get 1 rfl)).1 (rd_one (hM.get 1 rfl)).2 sz55 rfl rfl (by intro X h; cases h) ?_; intro w2 hM'; clear hM; have hM := hM'; clear hM'
  refine q_nil ?_
  replace hE : Env a 29 [(0, _), (1, _), (4, _), (5, _), (9, _)] := hE.sel [0, 1, 4, 5, 9] rfl
  refine hK5 _ _ ?_
  refine wp_seq_k (fun K6 hK6 => ?_)
  refine wp_plain [true, true] rfl rfl ?_
  refine s_move hE rfl rfl ?_; clear hE a; intro a hE
  refine s_assign hE rfl rfl ?_; clear hE a; intro a hE
  refine q_nil ?_
  replace hE : Env a 29 [(0, _), (1, _), (4, _), (9, _)] := hE.sel [0, 1, 4, 9] rfl
  refine hK6 _ _ ?_
  refine wp_ret ?_
  refine f_ret1 hE rfl rfl ?_
  refine ⟨_, rfl, fun x hx => hvb x (hvb18 x hx), ?_⟩
  replace hM := (hM.pick [0, 1, 4, 2] rfl).tapeShut (fun x hx => hvb x (hvb25 x hx))
  exact hM.pick [1, 0] rfl
theorem tapBytes_bad (b : Nat) (bb : List Nat) (bs : List UInt8) (torn : Bool) (x : Int) (w : World) (hT : (tap b bb bs torn 88).holds w) (h : (!torn && decide (0 ≤ x) && decide (x ≤ (bs.length : Int))) = false) : Calls Try.prog 41 #[.pointer (some ⟨b, 0, none⟩), .int .i64 x] w fun e w' => e = .returned (.slice none 0 0) ∧ Mem w [b] w' [tap b bb bs true 88] := by
  have hM0 := Mem.startT hT
  obtain ⟨v, c, hvb, hM⟩ := hM0.tapeOpen
  clear hM0
  have hlc := rd_len (hM.get 1 rfl)
  refine f_enter 29 Try.func41 rfl rfl rfl ?_
  intro a hE
  replace hE : Env a 29 [(0, _), (1, _)] := hE
  refine wp_seq_k (fun K1 hK1 => ?_)
  refine wp_plain [true] rfl rfl ?_
  refine s_assign hE rfl rfl ?_; clear hE a; intro a hE
  refine q_nil ?_
  refine hK1 _ _ ?_
  refine wp_seq_k (fun K2 hK2 => ?_)
  refine wp_seq_k (fun K3 hK3 => ?_)
  refine wp_plain [true, true, false, true] rfl rfl ?_
  refine s_move hE rfl rfl ?_; clear hE a; intro a hE
  refine s_move hE rfl rfl ?_; clear hE a; intro a hE
  refine s_call hE rfl Try.call48 (has_c b v true torn bs c _ _ (hM.get 0 rfl) (hM.get 1 rfl)) rfl ?_
  rintro e w1 ⟨rfl, hN⟩
  refine ⟨_, rfl, trivial, ?_⟩; clear hE a; intro a hE
  replace hM : Mem _ _ w1 [_, _, _] := hM.call0 hN trivial; clear hN
  refine s_not hE rfl rfl ?_; clear hE a; intro a hE
  refine q_nil ?_
  replace hE : Env a 29 [(0, _), (1, _), (4, _), (9, _)] := hE.sel [0, 1, 4, 9] rfl
  refine hK3 _ _ ?_
  refine hE.split 9 rfl (fun hb9 hE' => ?_) (fun hb9 hE' => ?_)
  · replace hE := hE'; clear hE'
    refine wp_cond_true (hE.eval rfl) ?_
    refine wp_seq_k (fun K4 hK4 => ?_)
    refine wp_plain [true, false] rfl rfl ?_
    refine s_move hE rfl rfl ?_; clear hE a; intro a hE
    refine s_call hE rfl Try.call49 (tear_c b v true torn _ (hM.get 0 rfl)) rfl ?_
    rintro e w2 ⟨rfl, hN⟩
    refine ⟨_, rfl, trivial, ?_⟩; clear hE a; intro a hE
    replace hM : Mem _ _ w2 [_, _, _] := hM.call1' hN ⟨rfl, trivial⟩; clear hN
    refine q_nil ?_
    replace hE : Env a 29 [(0, _), (1, _), (4, _), (9, _)] := hE.sel [0, 1, 4, 9] rfl
    refine hK4 _ _ ?_
    refine wp_seq_k (fun K5 hK5 => ?_)
    refine wp_plain [true] rfl rfl ?_
    refine s_assign hE rfl rfl ?_; clear hE a; intro a hE
    refine q_nil ?_
    refine hK5 _ _ ?_
    refine wp_ret ?_
    refine q_then_r ?_
    refine f_ret1 hE rfl rfl ?_
    exact ⟨rfl, (hM.pick [0, 1, 2] rfl).tapeShut hvb⟩
  · replace hE := hE'; clear hE'
    exact absurd h (by rw [Bool.true_and] at hb9; rw [not_false' hb9]; decide)
theorem open_c (bs : List UInt8) (v : Value) (c : Nat) (w : World) (hr : (rd v 1 bs.length c (bv bs)).holds w) (hb : bs.length ≤ 140737488355328) : Calls Try.prog 28 #[v] w fun e w' => ∃ b bb, e = .returned (.pointer (some ⟨b, 0, none⟩)) ∧ (∀ x, x ∈ bb → w.heap.size ≤ x) ∧ Mem w [] w' [tap b bb bs false 88] := by
  have hM := Mem.startR1 hr rfl
  refine f_enter 7 Try.func28 rfl rfl rfl ?_
  intro a hE
  replace hE : Env a 7 [(0, _)] := hE
  refine wp_seq_k (fun K1 hK1 => ?_)
  refine wp_plain [true] rfl rfl ?_
  refine s_assign hE rfl rfl ?_; clear hE a; intro a hE
  refine q_nil ?_
  refine hK1 _ _ ?_
  refine wp_seq_k (fun K2 hK2 => ?_)
  refine wp_plain [true, false, true, false, true] rfl rfl ?_
  refine s_move hE rfl rfl ?_; clear hE a; intro a hE
  refine s_call hE rfl Try.call44 (clone_c bs v c _ (hM.get 0 rfl) hb) rfl ?_
  rintro e w1 ⟨v4, rfl, hN⟩
  refine ⟨_, rfl, trivial, ?_⟩; clear hE a; intro a hE
  replace hM : Mem _ _ w1 [_, _] := hM.call0 hN ⟨rfl, trivial⟩; clear hN
  have hv4 := own_one (hM.get 0 rfl)
  refine s_buildS [[v4], [.bool true]] hE rfl zero88 rfl fpl88 ⟨hv4.1, rfl, rfl, rfl, trivial⟩ rfl ?_; clear hE a; intro a hE
  refine s_box (ss := [[v4], [.bool true], [.bool false]]) [1, 1, 1] hE hM rfl rfl rfl rfl ?_; clear hE a; intro a b6 w2 hE hM'
  clear hM; have hM := hM'; clear hM'
  refine s_assign hE rfl rfl ?_; clear hE a; intro a hE
  refine q_nil ?_
  replace hE : Env a 7 [(2, _)] := hE.sel [2] rfl
  refine hK2 _ _ ?_
  refine wp_ret ?_
  refine f_ret1 hE rfl rfl ?_
  have hnew := hM.new _ (List.mem_cons_of_mem _ (List.mem_cons_self ..))
  obtain ⟨cc, hM⟩ := (hM.pick [1, 0, 2] rfl).freeze
  replace hM := ((hM.toShr).pick [2, 0, 1] rfl).tapeShut (fun x hx => hx)
  exact ⟨_, _, rfl, fun x hx => (hnew x (rdB_sub hx)).resolve_left (by simp), hM⟩
theorem tapNum_c (b : Nat) (bb : List Nat) (bs : List UInt8) (torn : Bool) (x : Int) (w : World) (hT : (tap b bb bs torn 88).holds w) : Calls Try.prog 42 #[.pointer (some ⟨b, 0, none⟩), .int .i64 x] w fun e w' => e = .returned (.int .u64 (((tNum bs torn x).1 : Nat) : Int)) ∧ Mem w [b] w' [tap b bb (tNum bs torn x).2.1 (tNum bs torn x).2.2 88] := by
  unfold tNum
  split
  · rename_i h
    simp only [numOk, Bool.and_eq_true, Bool.not_eq_true', decide_eq_true_eq] at h
    obtain ⟨h1, ⟨h2, h3⟩, h4⟩ := h
    subst h2
    obtain ⟨k, rfl⟩ := Int.eq_ofNat_of_zero_le h3
    exact tapNum_ok b bb bs k w hT h1 (by omega)
  · rename_i h
    exact tapNum_bad b bb bs torn x w hT (by simpa only [numOk, Bool.not_eq_true] using h)
theorem tapBytes_c (b : Nat) (bb : List Nat) (bs : List UInt8) (torn : Bool) (x : Int) (w : World) (hT : (tap b bb bs torn 88).holds w) : Calls Try.prog 41 #[.pointer (some ⟨b, 0, none⟩), .int .i64 x] w fun e w' => ∃ v' c, e = .returned v' ∧ (∀ y, y ∈ rdB v' c → y ∈ bb) ∧ Mem w [b] w' [rd v' 1 (tBytes bs torn x).1.length c (bv (tBytes bs torn x).1), tap b bb (tBytes bs torn x).2.1 (tBytes bs torn x).2.2 88] := by
  unfold tBytes
  split
  · rename_i h
    simp only [bytesOk, Bool.and_eq_true, Bool.not_eq_true', decide_eq_true_eq] at h
    obtain ⟨⟨h2, h3⟩, h4⟩ := h
    subst h2
    obtain ⟨k, rfl⟩ := Int.eq_ofNat_of_zero_le h3
    refine (tapBytes_ok b bb bs k w hT (by omega)).mono ?_
    rintro e w' ⟨v', rfl, hb, hM⟩
    exact ⟨v', k, rfl, hb, hM⟩
  · rename_i h
    refine (tapBytes_bad b bb bs torn x w hT (by simpa only [bytesOk, Bool.not_eq_true] using h)).mono ?_
    rintro e w' ⟨rfl, hM⟩
    exact ⟨_, 0, rfl, fun y hy => by simp [rdB] at hy, hM.addRd (rd_nil _) rfl (fun y hy => by simp [rd, rdB] at hy)⟩
theorem num_badw (bs : List UInt8) (v : Value) (c : Nat) (x : Int) (m : Nat) (w : World) (hr : (rd v 1 bs.length c (bv bs)).holds w) (hw : widthB x = false) : Calls Try.prog 45 #[v, .int .i64 x, .int .u64 m] w fun e w' => ∃ v', e = .returned (.tuple #[v', .int .i64 (((pNum bs x m).2 : Nat) : Int)]) ∧ Mem w [] w' [own v' 1 (pNum bs x m).1.length (bv (pNum bs x m).1)] := by
  have hM := Mem.startR1 hr rfl
  refine f_enter 27 Try.func45 rfl rfl rfl ?_
  intro a hE
  replace hE : Env a 27 [(0, _), (1, _), (2, _)] := hE
  refine wp_seq_k (fun K1 hK1 => ?_)
  refine wp_plain [true, true] rfl rfl ?_
  refine s_assign hE rfl rfl ?_; clear hE a; intro a hE
  refine s_assign hE rfl rfl ?_; clear hE a; intro a hE
  refine q_nil ?_
  refine hK1 _ _ ?_
  refine wp_seq_k (fun K2 hK2 => ?_)
  refine wp_seq_k (fun K3 hK3 => ?_)
  refine wp_plain [true, false, true, true, true, true, true, true, true, true, true, true, true, true] rfl rfl ?_
  refine s_move hE rfl rfl ?_; clear hE a; intro a hE
  refine s_call hE rfl Try.call50 (width_c _ _) rfl ?_
  rintro e w1 ⟨rfl, hN⟩
  refine ⟨_, rfl, trivial, ?_⟩; clear hE a; intro a hE
  replace hM : Mem _ _ w1 [_] := hM.call0 hN trivial; clear hN
  refine s_not hE rfl rfl ?_; clear hE a; intro a hE
  refine s_move hE rfl rfl ?_; clear hE a; intro a hE
  replace hE := hE.cast 11 rfl (show _ = Value.bool true from (by rw [hw]; rfl))
  refine g_no (b := true) hE rfl rfl rfl ?_; clear hE a; intro a hE
  refine g_no (b := true) hE rfl rfl rfl ?_; clear hE a; intro a hE
  refine g_no (b := true) hE rfl rfl rfl ?_; clear hE a; intro a hE
  refine g_und hE rfl rfl rfl ?_; clear hE a; intro a hE
  refine g_und hE rfl rfl rfl ?_; clear hE a; intro a hE
  refine g_und hE rfl rfl rfl ?_; clear hE a; intro a hE
  refine g_und hE rfl rfl rfl ?_; clear hE a; intro a hE
  refine g_und hE rfl rfl rfl ?_; clear hE a; intro a hE
  refine g_no (b := true) hE rfl rfl rfl ?_; clear hE a; intro a hE
  refine s_pickt hE rfl rfl rfl ?_; clear hE a; intro a hE
  refine q_nil ?_
  replace hE : Env a 27 [(0, _), (1, _), (2, _), (6, _), (7, _), (21, _)] := hE.sel [0, 1, 2, 6, 7, 21] rfl
  refine hK3 _ _ ?_
  refine wp_cond_true (hE.eval rfl) ?_
  refine wp_seq_k (fun K4 hK4 => ?_)
  refine wp_plain [true, true] rfl rfl ?_
  refine s_assign hE rfl rfl ?_; clear hE a; intro a hE
  refine s_assign hE rfl rfl ?_; clear hE a; intro a hE
  refine q_nil ?_
  refine hK4 _ _ ?_
  refine wp_ret ?_
  refine q_then_r ?_
  refine f_ret2 hE rfl rfl rfl ?_
  have hp : pNum bs x m = ([], 2) := by simp [pNum, numFits, hw]
  rw [hp]; exact ⟨_, rfl, hM.nil.addNil 1⟩
theorem num_k (bs : List UInt8) (v : Value) (c : Nat) (k : Nat) (m : Nat) (w : World) (hr : (rd v 1 bs.length c (bv bs)).holds w) (hw : widthB k = true) (hk : k ≤ 8) (hlen : bs.length + 8 ≤ 140737488355328) : Calls Try.prog 45 #[v, .int .i64 k, .int .u64 m] w fun e w' => ∃ v', e = .returned (.tuple #[v', .int .i64 (((pNum bs k m).2 : Nat) : Int)]) ∧ Mem w [] w' [own v' 1 (pNum bs k m).1.length (bv (pNum bs k m).1)] := by
  have hM := Mem.startR1 hr rfl
  refine f_enter 27 Try.func45 rfl rfl rfl ?_
  intro a hE
  replace hE : Env a 27 [(0, _), (1, _), (2, _)] := hE
  refine wp_seq_k (fun K1 hK1 => ?_)
  refine wp_plain [true, true] rfl rfl ?_
  refine s_assign hE rfl rfl ?_; clear hE a; intro a hE
  refine s_assign hE rfl rfl ?_; clear hE a; intro a hE
  refine q_nil ?_
  refine hK1 _ _ ?_
  refine wp_seq_k (fun K2 hK2 => ?_)
  refine wp_seq_k (fun K3 hK3 => ?_)
  refine wp_plain [true, false, true, true, true, true, true, true, true, true, true, true, true, true] rfl rfl ?_
  refine s_move hE rfl rfl ?_; clear hE a; intro a hE
  refine s_call hE rfl Try.call50 (width_c _ _) rfl ?_
  rintro e w1 ⟨rfl, hN⟩
  refine ⟨_, rfl, trivial, ?_⟩; clear hE a; intro a hE
  replace hM : Mem _ _ w1 [_] := hM.call0 hN trivial; clear hN
  refine s_not hE rfl rfl ?_; clear hE a; intro a hE
  refine s_move hE rfl rfl ?_; clear hE a; intro a hE
  replace hE := hE.cast 11 rfl (show _ = Value.bool false from (by rw [hw]; rfl))
  refine g_yes hE rfl rfl ?_
  refine s_move hE rfl rfl ?_; clear hE a; intro a hE
  refine g_yes hE rfl rfl ?_
  refine s_bin hE rfl rfl bin_lss rfl ?_; clear hE a; intro a hE
  refine g_yes hE rfl rfl ?_
  refine s_move hE rfl rfl ?_; clear hE a; intro a hE
  refine hE.split 14 rfl (fun hb14 hE' => ?_) (fun hb14 hE' => ?_)
  · replace hE := hE'; clear hE'
    replace hb14 := of_decide_eq_true hb14
    refine g_yes hE rfl rfl ?_
    refine s_move hE rfl rfl ?_; clear hE a; intro a hE
    refine g_yes hE rfl rfl ?_
    refine s_move hE rfl rfl ?_; clear hE a; intro a hE
    refine g_yes hE rfl rfl ?_
    refine s_bin hE rfl rfl (bin_mul (q := ((8 * k : Nat) : Int)) (by rw [wrap_i64 (by omega) (by omega)]; omega)) rfl ?_; clear hE a; intro a hE
    refine g_yes hE rfl rfl ?_
    refine s_bin hE rfl rfl (bin_shr_nat rfl (by show _ ≤ 64; omega)) rfl ?_; clear hE a; intro a hE
    refine g_yes hE rfl rfl ?_
    refine s_bin hE rfl rfl bin_neq rfl ?_; clear hE a; intro a hE
    refine g_yes hE rfl rfl ?_
    refine s_pickt hE rfl rfl rfl ?_; clear hE a; intro a hE
    refine s_pickf hE rfl rfl rfl ?_; clear hE a; intro a hE
    refine q_nil ?_
    replace hE : Env a 27 [(0, _), (1, _), (2, _), (6, _), (7, _), (21, _)] := hE.sel [0, 1, 2, 6, 7, 21] rfl
    refine hK3 _ _ ?_
    refine hE.split 21 rfl (fun hb21 hE' => ?_) (fun hb21 hE' => ?_)
    · replace hE := hE'; clear hE'
      replace hb21 := of_decide_eq_false (not_true hb21)
      refine wp_cond_true (hE.eval rfl) ?_
      refine wp_seq_k (fun K4 hK4 => ?_)
      refine wp_plain [true, true] rfl rfl ?_
      refine s_assign hE rfl rfl ?_; clear hE a; intro a hE
      refine s_assign hE rfl rfl ?_; clear hE a; intro a hE
      refine q_nil ?_
      refine hK4 _ _ ?_
      refine wp_ret ?_
      refine q_then_r ?_
      refine f_ret2 hE rfl rfl rfl ?_
      have hp : pNum bs k m = ([], 2) := by
        have h1 : ¬ (8 : Int) ≤ k := by omega
        have h2 : ¬ m / 2 ^ (8 * k) = 0 := fun h => hb21 (by rw [h]; rfl)
        simp [pNum, numFits, hw, h1, h2]
      rw [hp]; exact ⟨_, rfl, hM.nil.addNil 1⟩
    · replace hE := hE'; clear hE'
      replace hb21 := of_decide_eq_true (not_false' hb21)
      refine wp_cond_false (hE.eval rfl) ?_
      refine wp_skip ?_
      refine hK2 _ _ ?_
      refine wp_seq_k (fun K4 hK4 => ?_)
      refine wp_plain [true, false, true, true, false, true, true] rfl rfl ?_
      refine s_move hE rfl rfl ?_; clear hE a; intro a hE
      refine s_call hE rfl Try.call44 (clone_c bs v c _ (hM.get 0 rfl) (by omega)) rfl ?_
      rintro e w2 ⟨vc, rfl, hN⟩
      refine ⟨_, rfl, trivial, ?_⟩; clear hE a; intro a hE
      replace hM : Mem _ _ w2 [_, _] := hM.call0 hN ⟨rfl, trivial⟩; clear hN
      refine s_move hE rfl rfl ?_; clear hE a; intro a hE
      refine s_move hE rfl rfl ?_; clear hE a; intro a hE
      refine s_call hE rfl Try.call52 (lay_c vc bs k m _ (hM.get 0 rfl) hk (by omega)) rfl ?_
      rintro e w3 ⟨vl, rfl, hN⟩
      refine ⟨_, rfl, trivial, ?_⟩; clear hE a; intro a hE
      replace hM : Mem _ _ w3 [_, _] := hM.call1' hN ⟨rfl, trivial⟩; clear hN
      refine s_assign hE rfl rfl ?_; clear hE a; intro a hE
      refine s_assign hE rfl rfl ?_; clear hE a; intro a hE
      refine q_nil ?_
      replace hE : Env a 27 [(1, _), (2, _), (6, _), (7, _), (21, _)] := hE.sel [1, 2, 6, 7, 21] rfl
      refine hK4 _ _ ?_
      refine wp_ret ?_
      refine f_ret2 hE rfl rfl rfl ?_
      have hp : pNum bs k m = (bs ++ laid k m, 0) := by
        have h1 : m / 2 ^ (8 * k) = 0 := by omega
        simp [pNum, numFits, hw, h1]
      rw [hp]; refine ⟨_, rfl, ?_⟩; simpa using hM.pick [0] rfl
  · replace hE := hE'; clear hE'
    replace hb14 := of_decide_eq_false hb14
    refine g_no (b := false) hE rfl rfl rfl ?_; clear hE a; intro a hE
    refine g_no (b := false) hE rfl rfl rfl ?_; clear hE a; intro a hE
    refine g_no (b := false) hE rfl rfl rfl ?_; clear hE a; intro a hE
    refine g_no (b := false) hE rfl rfl rfl ?_; clear hE a; intro a hE
    refine g_no (b := false) hE rfl rfl rfl ?_; clear hE a; intro a hE
    refine g_yes hE rfl rfl ?_
    refine s_pickf hE rfl rfl rfl ?_; clear hE a; intro a hE
    refine s_pickf hE rfl rfl rfl ?_; clear hE a; intro a hE
    refine q_nil ?_
    replace hE : Env a 27 [(0, _), (1, _), (2, _), (6, _), (7, _), (21, _)] := hE.sel [0, 1, 2, 6, 7, 21] rfl
    refine hK3 _ _ ?_
    refine wp_cond_false (hE.eval rfl) ?_
    refine wp_skip ?_
    refine hK2 _ _ ?_
    refine wp_seq_k (fun K4 hK4 => ?_)
    refine wp_plain [true, false, true, true, false, true, true] rfl rfl ?_
    refine s_move hE rfl rfl ?_; clear hE a; intro a hE
    refine s_call hE rfl Try.call44 (clone_c bs v c _ (hM.get 0 rfl) (by omega)) rfl ?_
    rintro e w2 ⟨vc, rfl, hN⟩
    refine ⟨_, rfl, trivial, ?_⟩; clear hE a; intro a hE
    replace hM : Mem _ _ w2 [_, _] := hM.call0 hN ⟨rfl, trivial⟩; clear hN
    refine s_move hE rfl rfl ?_; clear hE a; intro a hE
    refine s_move hE rfl rfl ?_; clear hE a; intro a hE
    refine s_call hE rfl Try.call52 (lay_c vc bs k m _ (hM.get 0 rfl) hk (by omega)) rfl ?_
    rintro e w3 ⟨vl, rfl, hN⟩
    refine ⟨_, rfl, trivial, ?_⟩; clear hE a; intro a hE
    replace hM : Mem _ _ w3 [_, _] := hM.call1' hN ⟨rfl, trivial⟩; clear hN
    refine s_assign hE rfl rfl ?_; clear hE a; intro a hE
    refine s_assign hE rfl rfl ?_; clear hE a; intro a hE
    refine q_nil ?_
    replace hE : Env a 27 [(1, _), (2, _), (6, _), (7, _), (21, _)] := hE.sel [1, 2, 6, 7, 21] rfl
    refine hK4 _ _ ?_
    refine wp_ret ?_
    refine f_ret2 hE rfl rfl rfl ?_
    have hp : pNum bs k m = (bs ++ laid k m, 0) := by
      have h1 : (8 : Int) ≤ k := by omega
      simp [pNum, numFits, hw, h1]
    rw [hp]; refine ⟨_, rfl, ?_⟩; simpa using hM.pick [0] rfl
theorem num_c (bs : List UInt8) (v : Value) (c : Nat) (x : Int) (m : Nat) (w : World) (hr : (rd v 1 bs.length c (bv bs)).holds w) (hlen : bs.length + 8 ≤ 140737488355328) : Calls Try.prog 45 #[v, .int .i64 x, .int .u64 m] w fun e w' => ∃ v', e = .returned (.tuple #[v', .int .i64 (((pNum bs x m).2 : Nat) : Int)]) ∧ Mem w [] w' [own v' 1 (pNum bs x m).1.length (bv (pNum bs x m).1)] := by
  cases hw : widthB x with
  | false => exact num_badw bs v c x m w hr hw
  | true =>
    obtain ⟨k, rfl, hk, _⟩ := widthB_nat hw
    exact num_k bs v c k m w hr hw hk hlen
theorem num_fit (bs : List UInt8) (v : Value) (c k m : Nat) (w : World) (hr : (rd v 1 bs.length c (bv bs)).holds w) (hw : widthB (k : Int) = true) (hf : 8 ≤ k ∨ m < 256 ^ k) (hlen : bs.length + 8 ≤ 140737488355328) : Calls Try.prog 45 #[v, .int .i64 (k : Int), .int .u64 (m : Int)] w fun e w' => ∃ v', e = .returned (.tuple #[v', .int .i64 0]) ∧ Mem w [] w' [own v' 1 (bs ++ laid k m).length (bv (bs ++ laid k m))] := by
  have h := num_c bs v c k m w hr hlen
  rw [pNum_fit hw hf] at h
  exact h
end Go.Proofs.Ytamjaacddbecaaa
