/- Walks of functions of the given program that the claim reaches. -/
import Derived.Test.YthagednepehliaaDoorLh
namespace Go.Proofs.YthagednepehliaaDoor
open Go Go.Kx
theorem fo84_1 : fieldOff Tryd.prog 84 1 = some 1 := by kernel_rfl
theorem fo84_2 : fieldOff Tryd.prog 84 2 = some 2 := by kernel_rfl
theorem fo84_0 : fieldOff Tryd.prog 84 0 = some 0 := by kernel_rfl
theorem sz4 : (Tryd.prog.info? 4).map (·.size) = some 1 := by kernel_rfl
theorem sz22 : (Tryd.prog.info? 22).map (·.size) = some 1 := by kernel_rfl
theorem zero84 : Zero Tryd.prog 84 [[.slice none 0 0], [.bool false], [.bool false]] := ⟨.agg ([[.slice none 0 0], [.bool false], [.bool false]] : List (List Value)).flatten.toArray, by kernel_rfl, by kernel_rfl⟩
theorem fpl84 : fldPl Tryd.prog 84 = some (plc 0 [1, 1, 1]) := by kernel_rfl
theorem zero46 : Zero Tryd.prog 46 [bv (List.replicate 32 0)] := ⟨.agg ([bv (List.replicate 32 0)] : List (List Value)).flatten.toArray, by kernel_rfl, by kernel_rfl⟩
theorem arr46 : arrT Tryd.prog 46 = some (32, 1) := by kernel_rfl
theorem sz46 : (Tryd.prog.info? 46).map (·.size) = some 32 := by kernel_rfl
theorem row46 : RowT Tryd.prog 46 32 := RowT.of Tryd.underlying46 rfl (by kernel_rfl)
theorem zero48 : Zero Tryd.prog 48 [bv (List.replicate 32 0), bv (List.replicate 32 0), bv (List.replicate 32 0)] := ⟨.agg ([bv (List.replicate 32 0), bv (List.replicate 32 0), bv (List.replicate 32 0)] : List (List Value)).flatten.toArray, by kernel_rfl, by kernel_rfl⟩
theorem fpl48 : fldPl Tryd.prog 48 = some (plc 0 [32, 32, 32]) := by kernel_rfl
theorem sz48 : (Tryd.prog.info? 48).map (·.size) = some 96 := by kernel_rfl
theorem row48 : RowT Tryd.prog 48 96 := RowT.of Tryd.underlying48 rfl (by kernel_rfl)
theorem eqa46 : ∀ {a b : List UInt8}, a.length = 32 → b.length = 32 → Bin Tryd.prog .eql 46 (.agg (bv a).toArray) (.agg (bv b).toArray) (.bool (decide (a = b))) ∧ Bin Tryd.prog .neq 46 (.agg (bv a).toArray) (.agg (bv b).toArray) (.bool (!decide (a = b))) := fun ha hb => bins_arr8 Tryd.underlying46 (by kernel_rfl) Tryd.underlying5 (by kernel_rfl) (by kernel_rfl) ha hb
theorem bwidth_c (x : Int) (w : World) : Calls Tryd.prog 52 #[.int .i64 x] w fun e w' => e = .returned (.bool (widthB x)) ∧ Mem w [] w' [] := by
  have hM := Mem.start0 w
  refine f_enter 17 Tryd.func52 rfl rfl rfl ?_
  intro a hE
  replace hE : Env a 17 [(0, _)] := hE
  refine wp_seq_k (fun K1 hK1 => ?_)
  refine wp_plain [true] rfl rfl ?_
  refine s_assign hE rfl rfl ?_; clear hE a; intro a hE
  refine q_nil ?_
  refine hK1 _ _ ?_
  refine wp_seq_k (fun K2 hK2 => ?_)
  refine wp_plain [true, true, true, true, true, true, true, true, true, true, true, true, true, true, true] rfl rfl ?_
  refine s_move hE rfl rfl ?_; clear hE a; intro a hE
  refine s_bin hE rfl rfl bin_eql rfl ?_; clear hE a; intro a hE
  refine s_move hE rfl rfl ?_; clear hE a; intro a hE
  refine hE.split 5 rfl (fun hb5 hE' => ?_) (fun hb5 hE' => ?_)
  · replace hE := hE'; clear hE'
    refine g_no (b := true) hE rfl rfl rfl ?_; clear hE a; intro a hE
    refine g_no (b := true) hE rfl rfl rfl ?_; clear hE a; intro a hE
    refine s_pickt hE rfl rfl rfl ?_; clear hE a; intro a hE
    refine s_move hE rfl rfl ?_; clear hE a; intro a hE
    refine g_no (b := true) hE rfl rfl rfl ?_; clear hE a; intro a hE
    refine g_no (b := true) hE rfl rfl rfl ?_; clear hE a; intro a hE
    refine s_pickt hE rfl rfl rfl ?_; clear hE a; intro a hE
    refine s_move hE rfl rfl ?_; clear hE a; intro a hE
    refine g_no (b := true) hE rfl rfl rfl ?_; clear hE a; intro a hE
    refine g_no (b := true) hE rfl rfl rfl ?_; clear hE a; intro a hE
    refine s_pickt hE rfl rfl rfl ?_; clear hE a; intro a hE
    refine s_assign hE rfl rfl ?_; clear hE a; intro a hE
    refine q_nil ?_
    replace hE : Env a 17 [(2, _)] := hE.sel [2] rfl
    refine hK2 _ _ ?_
    refine wp_ret ?_
    refine f_ret1 hE rfl rfl ?_
    exact ⟨by simp [widthB, hb5], hM⟩
  · replace hE := hE'; clear hE'
    refine g_yes hE rfl rfl ?_
    refine s_move hE rfl rfl ?_; clear hE a; intro a hE
    refine g_yes hE rfl rfl ?_
    refine s_bin hE rfl rfl bin_eql rfl ?_; clear hE a; intro a hE
    refine s_pickf hE rfl rfl rfl ?_; clear hE a; intro a hE
    refine s_move hE rfl rfl ?_; clear hE a; intro a hE
    refine hE.split 9 rfl (fun hb9 hE' => ?_) (fun hb9 hE' => ?_)
    · replace hE := hE'; clear hE'
      refine g_no (b := true) hE rfl rfl rfl ?_; clear hE a; intro a hE
      refine g_no (b := true) hE rfl rfl rfl ?_; clear hE a; intro a hE
      refine s_pickt hE rfl rfl rfl ?_; clear hE a; intro a hE
      refine s_move hE rfl rfl ?_; clear hE a; intro a hE
      refine g_no (b := true) hE rfl rfl rfl ?_; clear hE a; intro a hE
      refine g_no (b := true) hE rfl rfl rfl ?_; clear hE a; intro a hE
      refine s_pickt hE rfl rfl rfl ?_; clear hE a; intro a hE
      refine s_assign hE rfl rfl ?_; clear hE a; intro a hE
      refine q_nil ?_
      replace hE : Env a 17 [(2, _)] := hE.sel [2] rfl
      refine hK2 _ _ ?_
      refine wp_ret ?_
      refine f_ret1 hE rfl rfl ?_
      exact ⟨by simp [widthB, hb5, hb9], hM⟩
    · replace hE := hE'; clear hE'
      refine g_yes hE rfl rfl ?_
      refine s_move hE rfl rfl ?_; clear hE a; intro a hE
      refine g_yes hE rfl rfl ?_
      refine s_bin hE rfl rfl bin_eql rfl ?_; clear hE a; intro a hE
      refine s_pickf hE rfl rfl rfl ?_; clear hE a; intro a hE
      refine s_move hE rfl rfl ?_; clear hE a; intro a hE
      refine hE.split 13 rfl (fun hb13 hE' => ?_) (fun hb13 hE' => ?_)
      · replace hE := hE'; clear hE'
        refine g_no (b := true) hE rfl rfl rfl ?_; clear hE a; intro a hE
        refine g_no (b := true) hE rfl rfl rfl ?_; clear hE a; intro a hE
        refine s_pickt hE rfl rfl rfl ?_; clear hE a; intro a hE
        refine s_assign hE rfl rfl ?_; clear hE a; intro a hE
        refine q_nil ?_
        replace hE : Env a 17 [(2, _)] := hE.sel [2] rfl
        refine hK2 _ _ ?_
        refine wp_ret ?_
        refine f_ret1 hE rfl rfl ?_
        exact ⟨by simp [widthB, hb5, hb9, hb13], hM⟩
      · replace hE := hE'; clear hE'
        refine g_yes hE rfl rfl ?_
        refine s_move hE rfl rfl ?_; clear hE a; intro a hE
        refine g_yes hE rfl rfl ?_
        refine s_bin hE rfl rfl bin_eql rfl ?_; clear hE a; intro a hE
        refine s_pickf hE rfl rfl rfl ?_; clear hE a; intro a hE
        refine s_assign hE rfl rfl ?_; clear hE a; intro a hE
        refine q_nil ?_
        replace hE : Env a 17 [(2, _)] := hE.sel [2] rfl
        refine hK2 _ _ ?_
        refine wp_ret ?_
        refine f_ret1 hE rfl rfl ?_
        exact ⟨by simp [widthB, hb5, hb9, hb13], hM⟩
theorem bclone_nil (w : World) : Calls Tryd.prog 51 #[.slice none 0 0] w fun e w' => ∃ v', e = .returned v' ∧ Mem w [] w' [own v' 1 0 (bv [])] := by
  have hM := Mem.start0 w
  refine f_enter 8 Tryd.func51 rfl rfl rfl ?_
  intro a hE
  replace hE : Env a 8 [(0, _)] := hE
  refine wp_seq_k (fun K1 hK1 => ?_)
  refine wp_plain [true] rfl rfl ?_
  refine s_assign hE rfl rfl ?_; clear hE a; intro a hE
  refine q_nil ?_
  refine hK1 _ _ ?_
  refine wp_seq_k (fun K2 hK2 => ?_)
  refine wp_seq_k (fun K3 hK3 => ?_)
  refine wp_plain [true, true] rfl rfl ?_
  refine s_move hE rfl rfl ?_; clear hE a; intro a hE
  refine s_bin hE rfl rfl (bins_sl_nil Tryd.underlying22).1 rfl ?_; clear hE a; intro a hE
  replace hE := hE.cast 4 rfl (show _ = Value.bool true from rfl)
  refine q_nil ?_
  replace hE : Env a 8 [(0, _), (2, _), (4, _)] := hE.sel [0, 2, 4] rfl
  refine hK3 _ _ ?_
  refine wp_cond_true (hE.eval rfl) ?_
  refine wp_seq_k (fun K4 hK4 => ?_)
  refine wp_plain [true] rfl rfl ?_
  refine s_assign hE rfl rfl ?_; clear hE a; intro a hE
  refine q_nil ?_
  refine hK4 _ _ ?_
  refine wp_ret ?_
  refine q_then_r ?_
  refine f_ret1 hE rfl rfl ?_
  exact ⟨_, rfl, hM.addNil 1⟩
theorem bclone_some (bs : List UInt8) (p : Addr) (n c : Nat) (w : World) (hr : (rd (.slice (some p) n c) 1 bs.length c (bv bs)).holds w) (hb : bs.length ≤ 140737488355328) : Calls Tryd.prog 51 #[.slice (some p) n c] w fun e w' => ∃ v', e = .returned v' ∧ Mem w [] w' [own v' 1 bs.length (bv bs)] := by
  have hM := Mem.startR1 hr rfl
  refine f_enter 8 Tryd.func51 rfl rfl rfl ?_
  intro a hE
  replace hE : Env a 8 [(0, _)] := hE
  refine wp_seq_k (fun K1 hK1 => ?_)
  refine wp_plain [true] rfl rfl ?_
  refine s_assign hE rfl rfl ?_; clear hE a; intro a hE
  refine q_nil ?_
  refine hK1 _ _ ?_
  refine wp_seq_k (fun K2 hK2 => ?_)
  refine wp_seq_k (fun K3 hK3 => ?_)
  refine wp_plain [true, true] rfl rfl ?_
  refine s_move hE rfl rfl ?_; clear hE a; intro a hE
  refine s_bin hE rfl rfl (bins_sl_nil Tryd.underlying22).1 rfl ?_; clear hE a; intro a hE
  replace hE := hE.cast 4 rfl (show _ = Value.bool false from rfl)
  refine q_nil ?_
  replace hE : Env a 8 [(0, _), (2, _), (4, _)] := hE.sel [0, 2, 4] rfl
  refine hK3 _ _ ?_
  refine wp_cond_false (hE.eval rfl) ?_
  refine wp_skip ?_
  refine hK2 _ _ ?_
  refine wp_seq_k (fun K4 hK4 => ?_)
  refine wp_plain [false, true, false, true] rfl rfl ?_
  refine s_buildSlice (xs := []) ([]) hE hM sl22 rfl rfl rfl (by intro v hv; cases hv) rfl rfl rfl rfl ?_; clear hE a; intro a v5 w1 hE hM'
  clear hM; have hM := hM'; clear hM'
  refine s_move hE rfl rfl ?_; clear hE a; intro a hE
  have hy := hM.get 1 rfl
  refine s_append hE rfl rfl hM sl22 (Src.rd Tryd.underlying22 hy (bv_one _)) (len47 (by omega)) (by omega) (by intro X h; cases h) rfl ?_; clear hE a hy; intro a v7 w2 hE hM'
  clear hM; have hM := hM'; clear hM'
  refine s_assign hE rfl rfl ?_; clear hE a; intro a hE
  refine q_nil ?_
  replace hE : Env a 8 [(0, _), (2, _), (4, _)] := hE.sel [0, 2, 4] rfl
  refine hK4 _ _ ?_
  refine wp_ret ?_
  refine f_ret1 hE rfl rfl ?_
  refine ⟨_, rfl, ?_⟩
  replace hM := hM.pick [0] rfl
  simpa using hM
theorem bclone_c (bs : List UInt8) (v : Value) (c : Nat) (w : World) (hr : (rd v 1 bs.length c (bv bs)).holds w) (hb : bs.length ≤ 140737488355328) : Calls Tryd.prog 51 #[v] w fun e w' => ∃ v', e = .returned v' ∧ Mem w [] w' [own v' 1 bs.length (bv bs)] := by
  have hr' := hr
  obtain ⟨hl, ⟨p, rfl, h0, rfl⟩ | ⟨b, o, rfl, h1, h2, h3⟩⟩ := hr
  · cases p with
    | none =>
      have : bs = [] := List.eq_nil_of_length_eq_zero h0
      subst this
      exact bclone_nil w
    | some p => exact bclone_some bs _ _ _ w hr' hb
  · exact bclone_some bs _ _ _ w hr' hb
theorem blay_c (v : Value) (bs : List UInt8) (k m : Nat) (w : World) (hv : (own v 1 bs.length (bv bs)).holds w) (hk : k ≤ 8) (hlen : bs.length + k ≤ 140737488355328) : Calls Tryd.prog 40 #[v, .int .i64 k, .int .u64 m] w fun e w' => ∃ v', e = .returned v' ∧ Mem w (valBlocks v) w' [own v' 1 (bs.length + k) (bv (bs ++ laid k m))] := by
  have hM := Mem.start1 hv
  refine f_enter 25 Tryd.func40 rfl rfl rfl ?_
  intro a hE
  replace hE : Env a 25 [(0, _), (1, _), (2, _)] := hE
  refine wp_seq_k (fun K1 hK1 => ?_)
  refine wp_plain [true] rfl rfl ?_
  refine s_assign hE rfl rfl ?_; clear hE a; intro a hE
  refine q_nil ?_
  refine hK1 _ _ ?_
  refine wp_seq_k (fun K2 hK2 => ?_)
  refine wp_seq_k (fun K3 hK3 => ?_)
  refine wp_plain [true, true] rfl rfl ?_
  refine s_move hE rfl rfl ?_; clear hE a; intro a hE
  refine s_move hE rfl rfl ?_; clear hE a; intro a hE
  refine q_nil ?_
  refine hK3 _ _ ?_
  refine wp_block ?_
  refine c_loop (fun (i : Nat) a w' => i ≤ k ∧ ∃ v', Env a 25 [(0, v'), (1, .int .i64 k), (2, .int .u64 m), (8, .int .i64 k), (9, .int .i64 i)] ∧ Mem w (valBlocks v) w' [own v' 1 (bs.length + i) (bv (bs ++ (laid k m).take i))]) (fun i => k - i) 0 ⟨Nat.zero_le _, _, hE.sel [0, 1, 2, 8, 9] rfl, by simpa using hM⟩ ?_
  clear hE hM a; rintro i a w2 ⟨hi, v2, hE, hM⟩
  refine wp_seq_k (fun K4 hK4 => ?_)
  refine wp_plain [true] rfl rfl ?_
  refine s_bin hE rfl rfl bin_lss rfl ?_; clear hE a; intro a hE
  refine q_nil ?_
  refine hK4 _ _ ?_
  refine wp_seq_k (fun K5 hK5 => ?_)
  refine hE.split 10 rfl (fun hb10 hE' => ?_) (fun hb10 hE' => ?_)
  · replace hE := hE'; clear hE'
    replace hb10 := of_decide_eq_true hb10
    refine wp_cond_true (hE.eval rfl) ?_
    refine wp_skip ?_
    refine hK5 _ _ ?_
    refine wp_seq_k (fun K6 hK6 => ?_)
    refine wp_block ?_
    refine wp_seq_k (fun K7 hK7 => ?_)
    refine wp_plain [true, true] rfl rfl ?_
    refine s_move hE rfl rfl ?_; clear hE a; intro a hE
    refine s_assign hE rfl rfl ?_; clear hE a; intro a hE
    refine q_nil ?_
    replace hE : Env a 25 [(0, _), (1, _), (2, _), (7, _), (8, _), (9, _), (10, _)] := hE.sel [0, 1, 2, 7, 8, 9, 10] rfl
    refine hK7 _ _ ?_
    refine wp_plain [true, true, true, true, true, true, true, true, true, false, false, true] rfl rfl ?_
    refine s_move hE rfl rfl ?_; clear hE a; intro a hE
    refine s_move hE rfl rfl ?_; clear hE a; intro a hE
    refine s_move hE rfl rfl ?_; clear hE a; intro a hE
    refine s_bin hE rfl rfl (bin_sub (wrap_i64 (by omega) (by omega))) rfl ?_; clear hE a; intro a hE
    refine s_move hE rfl rfl ?_; clear hE a; intro a hE
    refine s_bin hE rfl rfl (bin_sub (wrap_i64 (by omega) (by omega))) rfl ?_; clear hE a; intro a hE
    refine s_bin hE rfl rfl (bin_mul (q := ((8 * (k - 1 - i) : Nat) : Int)) (by rw [wrap_i64 (by omega) (by omega)]; omega)) rfl ?_; clear hE a; intro a hE
    refine s_bin hE rfl rfl (bin_shr_nat rfl (by show _ ≤ 64; omega)) rfl ?_; clear hE a; intro a hE
    refine s_conv hE rfl (cnv_int Tryd.underlying69 Tryd.underlying5 (wrap_u8_ofNat _)) rfl ?_; clear hE a; intro a hE
    refine s_buildSlice (xs := [.tmp 20]) (bv [UInt8.ofNat (m / 2 ^ (8 * (k - 1 - i)))]) hE hM sl22 rfl rfl rfl (by intro v hv; simp at hv; subst hv; rfl) rfl rfl rfl rfl ?_; clear hE a; intro a v21 w1 hE hM'
    clear hM; have hM := hM'; clear hM'
    replace hM : Mem _ _ w1 [_, _] := hM.pick [1, 0] rfl
    obtain ⟨cy, hy⟩ := own_rd (hM.get 1 rfl)
    refine s_append hE rfl rfl hM sl22 (Src.rd Tryd.underlying22 hy (bv_one _)) (len47 (by omega)) (by omega) (by intro X h; cases h) rfl ?_; clear hE a hy; intro a v22 w2 hE hM'
    clear hM; have hM := hM'; clear hM'
    replace hM : Mem _ _ w2 [_] := hM.pick [0] rfl
    refine s_assign hE rfl rfl ?_; clear hE a; intro a hE
    refine q_nil ?_
    replace hE : Env a 25 [(0, _), (1, _), (2, _), (7, _), (8, _), (9, _), (10, _)] := hE.sel [0, 1, 2, 7, 8, 9, 10] rfl
    refine q_block_n ?_
    refine hK6 _ _ ?_
    refine wp_plain [true, true] rfl rfl ?_
    refine s_bin hE rfl rfl (bin_add (wrap_i64 (by omega) (by omega))) rfl ?_; clear hE a; intro a hE
    refine s_move hE rfl rfl ?_; clear hE a; intro a hE
    refine q_nil ?_
    replace hE : Env a 25 [(0, _), (1, _), (2, _), (7, _), (8, _), (9, _), (10, _)] := hE.sel [0, 1, 2, 7, 8, 9, 10] rfl
    replace hE := hE.cast 9 rfl (show _ = Value.int .i64 ((i + 1 : Nat) : Int) from congrArg _ (by omega))
    refine ⟨i + 1, ⟨by omega, _, hE.sel [0, 1, 2, 8, 9] rfl, ?_⟩, by omega⟩
    rw [laid_take_succ (by omega), ← List.append_assoc, bv_append]; exact hM
  · replace hE := hE'; clear hE'
    replace hb10 := of_decide_eq_false hb10
    obtain rfl : i = k := by omega
    refine wp_cond_false (hE.eval rfl) ?_
    refine wp_exit ?_
    refine q_then_e ?_
    refine q_then_e ?_
    refine q_block_x ?_
    refine hK2 _ _ ?_
    refine wp_seq_k (fun K6 hK6 => ?_)
    refine wp_plain [true, true] rfl rfl ?_
    refine s_move hE rfl rfl ?_; clear hE a; intro a hE
    refine s_assign hE rfl rfl ?_; clear hE a; intro a hE
    refine q_nil ?_
    replace hE : Env a 25 [(0, _), (1, _), (2, _), (6, _), (8, _), (9, _), (10, _)] := hE.sel [0, 1, 2, 6, 8, 9, 10] rfl
    refine hK6 _ _ ?_
    refine wp_ret ?_
    refine f_ret1 hE rfl rfl ?_
    refine ⟨_, rfl, ?_⟩
    rw [List.take_of_length_le (by simp)] at hM; exact hM
theorem bis_c (b : Nat) (v : Value) (m t : Bool) (w : World) (hB : (blk b [[v], [.bool m], [.bool t]] [1, 1, 1] 84).holds w) : Calls Tryd.prog 55 #[.pointer (some ⟨b, 0, none⟩)] w fun e w' => e = .returned (.bool (m && !t)) ∧ Mem w [] w' [] := by
  have hM := Mem.startR1 (e := blkR b [[v], [.bool m], [.bool t]] [1, 1, 1] 84) hB rfl
  refine f_enter 18 Tryd.func55 rfl rfl rfl ?_
  intro a hE
  replace hE : Env a 18 [(0, _)] := hE
  refine wp_seq_k (fun K1 hK1 => ?_)
  refine wp_plain [true] rfl rfl ?_
  refine s_assign hE rfl rfl ?_; clear hE a; intro a hE
  refine q_nil ?_
  refine hK1 _ _ ?_
  refine wp_seq_k (fun K2 hK2 => ?_)
  refine wp_plain [true, true, true, true, true, true, true, true, true, true, true, true, true, true, true, true] rfl rfl ?_
  refine s_move hE rfl rfl ?_; clear hE a; intro a hE
  refine s_bin hE rfl rfl (bins_ptr_nil Tryd.underlying70).2 rfl ?_; clear hE a; intro a hE
  refine s_move hE rfl rfl ?_; clear hE a; intro a hE
  refine g_yes hE rfl rfl ?_
  refine s_move hE rfl rfl ?_; clear hE a; intro a hE
  refine g_yes hE rfl rfl ?_
  refine s_nilCheck hE rfl rfl ?_; clear hE a; intro a hE
  refine g_yes hE rfl rfl ?_
  refine s_fieldAddr hE rfl fo84_1 rfl ?_; clear hE a; intro a hE
  refine g_yes hE rfl rfl ?_
  refine s_load1 hE rfl (blkR_blk (hM.get 0 rfl)) rfl one4 (by intro X h; cases h) rfl ?_; clear hE a; intro a hE
  refine s_pickt hE rfl rfl rfl ?_; clear hE a; intro a hE
  refine s_move hE rfl rfl ?_; clear hE a; intro a hE
  refine hE.split 11 rfl (fun hb11 hE' => ?_) (fun hb11 hE' => ?_)
  · replace hE := hE'; clear hE'
    refine g_yes hE rfl rfl ?_
    refine s_move hE rfl rfl ?_; clear hE a; intro a hE
    refine g_yes hE rfl rfl ?_
    refine s_nilCheck hE rfl rfl ?_; clear hE a; intro a hE
    refine g_yes hE rfl rfl ?_
    refine s_fieldAddr hE rfl fo84_2 rfl ?_; clear hE a; intro a hE
    refine g_yes hE rfl rfl ?_
    refine s_load1 hE rfl (blkR_blk (hM.get 0 rfl)) rfl one4 (by intro X h; cases h) rfl ?_; clear hE a; intro a hE
    refine g_yes hE rfl rfl ?_
    refine s_not hE rfl rfl ?_; clear hE a; intro a hE
    refine s_pickt hE rfl rfl rfl ?_; clear hE a; intro a hE
    refine s_assign hE rfl rfl ?_; clear hE a; intro a hE
    refine q_nil ?_
    replace hE : Env a 18 [(2, _)] := hE.sel [2] rfl
    refine hK2 _ _ ?_
    refine wp_ret ?_
    refine f_ret1 hE rfl rfl ?_
    exact ⟨by simp [hb11], hM.nil⟩
  · replace hE := hE'; clear hE'
    refine g_no (b := false) hE rfl rfl rfl ?_; clear hE a; intro a hE
    refine g_no (b := false) hE rfl rfl rfl ?_; clear hE a; intro a hE
    refine g_no (b := false) hE rfl rfl rfl ?_; clear hE a; intro a hE
    refine g_no (b := false) hE rfl rfl rfl ?_; clear hE a; intro a hE
    refine g_no (b := false) hE rfl rfl rfl ?_; clear hE a; intro a hE
    refine s_pickf hE rfl rfl rfl ?_; clear hE a; intro a hE
    refine s_assign hE rfl rfl ?_; clear hE a; intro a hE
    refine q_nil ?_
    replace hE : Env a 18 [(2, _)] := hE.sel [2] rfl
    refine hK2 _ _ ?_
    refine wp_ret ?_
    refine f_ret1 hE rfl rfl ?_
    exact ⟨by simp [hb11], hM.nil⟩
theorem bhas_c (b : Nat) (v : Value) (m t : Bool) (bs : List UInt8) (c : Nat) (i : Int) (w : World) (hB : (blk b [[v], [.bool m], [.bool t]] [1, 1, 1] 84).holds w) (hr : (rd v 1 bs.length c (bv bs)).holds w) : Calls Tryd.prog 53 #[.pointer (some ⟨b, 0, none⟩), .int .i64 i] w fun e w' => e = .returned (.bool (m && !t && decide (0 ≤ i) && decide (i ≤ bs.length))) ∧ Mem w [] w' [] := by
  have hM := Mem.startR2 (e := blkR b [[v], [.bool m], [.bool t]] [1, 1, 1] 84) (f := rd v 1 bs.length c (bv bs)) hB hr rfl rfl
  refine f_enter 20 Tryd.func53 rfl rfl rfl ?_
  intro a hE
  replace hE : Env a 20 [(0, _), (1, _)] := hE
  refine wp_seq_k (fun K1 hK1 => ?_)
  refine wp_plain [true] rfl rfl ?_
  refine s_assign hE rfl rfl ?_; clear hE a; intro a hE
  refine q_nil ?_
  refine hK1 _ _ ?_
  refine wp_seq_k (fun K2 hK2 => ?_)
  refine wp_plain [true, false, true, true, true, true, true, true, true, true, true, true, true, true, true, true] rfl rfl ?_
  refine s_move hE rfl rfl ?_; clear hE a; intro a hE
  refine s_call hE rfl Tryd.call55 (bis_c b v m t _ (blkR_blk (hM.get 0 rfl))) rfl ?_
  rintro e w1 ⟨rfl, hN⟩
  refine ⟨_, rfl, trivial, ?_⟩; clear hE a; intro a hE
  replace hM : Mem _ _ w1 [_, _] := hM.call0 hN trivial; clear hN
  refine s_move hE rfl rfl ?_; clear hE a; intro a hE
  refine hE.split 7 rfl (fun hb7 hE' => ?_) (fun hb7 hE' => ?_)
  · replace hE := hE'; clear hE'
    refine g_yes hE rfl rfl ?_
    refine s_move hE rfl rfl ?_; clear hE a; intro a hE
    refine g_yes hE rfl rfl ?_
    refine s_bin hE rfl rfl bin_geq rfl ?_; clear hE a; intro a hE
    refine s_pickt hE rfl rfl rfl ?_; clear hE a; intro a hE
    refine s_move hE rfl rfl ?_; clear hE a; intro a hE
    refine hE.split 11 rfl (fun hb11 hE' => ?_) (fun hb11 hE' => ?_)
    · replace hE := hE'; clear hE'
      refine g_yes hE rfl rfl ?_
      refine s_move hE rfl rfl ?_; clear hE a; intro a hE
      refine g_yes hE rfl rfl ?_
      refine s_move hE rfl rfl ?_; clear hE a; intro a hE
      refine g_yes hE rfl rfl ?_
      refine s_nilCheck hE rfl rfl ?_; clear hE a; intro a hE
      refine g_yes hE rfl rfl ?_
      refine s_fieldAddr hE rfl fo84_0 rfl ?_; clear hE a; intro a hE
      refine g_yes hE rfl rfl ?_
      refine s_load1 hE rfl (blkR_blk (hM.get 0 rfl)) rfl one22 (by intro X h; cases h) rfl ?_; clear hE a; intro a hE
      refine g_yes hE rfl rfl ?_
      refine s_len hE rfl Tryd.underlying22 (rd_slice (hM.get 1 rfl)) rfl ?_; clear hE a; intro a hE
      refine g_yes hE rfl rfl ?_
      refine s_bin hE rfl rfl bin_leq rfl ?_; clear hE a; intro a hE
      refine s_pickt hE rfl rfl rfl ?_; clear hE a; intro a hE
      refine s_assign hE rfl rfl ?_; clear hE a; intro a hE
      refine q_nil ?_
      replace hE : Env a 20 [(4, _)] := hE.sel [4] rfl
      refine hK2 _ _ ?_
      refine wp_ret ?_
      refine f_ret1 hE rfl rfl ?_
      exact ⟨by simp [hb7, hb11], hM.nil⟩
    · replace hE := hE'; clear hE'
      refine g_no (b := false) hE rfl rfl rfl ?_; clear hE a; intro a hE
      refine g_no (b := false) hE rfl rfl rfl ?_; clear hE a; intro a hE
      refine g_no (b := false) hE rfl rfl rfl ?_; clear hE a; intro a hE
      refine g_no (b := false) hE rfl rfl rfl ?_; clear hE a; intro a hE
      refine g_no (b := false) hE rfl rfl rfl ?_; clear hE a; intro a hE
      refine g_no (b := false) hE rfl rfl rfl ?_; clear hE a; intro a hE
      refine g_no (b := false) hE rfl rfl rfl ?_; clear hE a; intro a hE
      refine s_pickf hE rfl rfl rfl ?_; clear hE a; intro a hE
      refine s_assign hE rfl rfl ?_; clear hE a; intro a hE
      refine q_nil ?_
      replace hE : Env a 20 [(4, _)] := hE.sel [4] rfl
      refine hK2 _ _ ?_
      refine wp_ret ?_
      refine f_ret1 hE rfl rfl ?_
      exact ⟨by simp [hb7, hb11], hM.nil⟩
  · replace hE := hE'; clear hE'
    refine g_no (b := false) hE rfl rfl rfl ?_; clear hE a; intro a hE
    refine g_no (b := false) hE rfl rfl rfl ?_; clear hE a; intro a hE
    refine s_pickf hE rfl rfl rfl ?_; clear hE a; intro a hE
    refine s_move hE rfl rfl ?_; clear hE a; intro a hE
    refine g_no (b := false) hE rfl rfl rfl ?_; clear hE a; intro a hE
    refine g_no (b := false) hE rfl rfl rfl ?_; clear hE a; intro a hE
    refine g_no (b := false) hE rfl rfl rfl ?_; clear hE a; intro a hE
    refine g_no (b := false) hE rfl rfl rfl ?_; clear hE a; intro a hE
    refine g_no (b := false) hE rfl rfl rfl ?_; clear hE a; intro a hE
    refine g_no (b := false) hE rfl rfl rfl ?_; clear hE a; intro a hE
    refine g_no (b := false) hE rfl rfl rfl ?_; clear hE a; intro a hE
    refine s_pickf hE rfl rfl rfl ?_; clear hE a; intro a hE
    refine s_assign hE rfl rfl ?_; clear hE a; intro a hE
    refine q_nil ?_
    replace hE : Env a 20 [(4, _)] := hE.sel [4] rfl
    refine hK2 _ _ ?_
    refine wp_ret ?_
    refine f_ret1 hE rfl rfl ?_
    exact ⟨by simp [hb7], hM.nil⟩
theorem btear_c (b : Nat) (v : Value) (m t : Bool) (w : World) (hB : (blk b [[v], [.bool m], [.bool t]] [1, 1, 1] 84).holds w) : Calls Tryd.prog 54 #[.pointer (some ⟨b, 0, none⟩)] w fun e w' => e = .returned (.tuple #[]) ∧ Mem w [b] w' [blk b [[v], [.bool m], [.bool true]] [1, 1, 1] 84] := by
  have hM := Mem.startB hB
  refine f_enter 7 Tryd.func54 rfl rfl rfl ?_
  intro a hE
  replace hE : Env a 7 [(0, _)] := hE
  refine wp_seq_k (fun K1 hK1 => ?_)
  refine wp_plain [true, true] rfl rfl ?_
  refine s_move hE rfl rfl ?_; clear hE a; intro a hE
  refine s_bin hE rfl rfl (bins_ptr_nil Tryd.underlying70).2 rfl ?_; clear hE a; intro a hE
  refine q_nil ?_
  replace hE : Env a 7 [(0, _), (3, _)] := hE.sel [0, 3] rfl
  refine hK1 _ _ ?_
  refine wp_cond_true (hE.eval rfl) ?_
  refine wp_plain [true, true, true, false] rfl rfl ?_
  refine s_move hE rfl rfl ?_; clear hE a; intro a hE
  refine s_nilCheck hE rfl rfl ?_; clear hE a; intro a hE
  refine s_fieldAddr hE rfl fo84_2 rfl ?_; clear hE a; intro a hE
  refine s_store1 2 hE rfl rfl hM rfl rfl sz4 rfl rfl (by intro X h; cases h) ?_; intro w1 hM'; clear hM; have hM := hM'; clear hM'
  refine q_nil ?_
  replace hE : Env a 7 [(0, _), (3, _)] := hE.sel [0, 3] rfl
  refine (f_ret0 hE rfl ?_).2
  exact ⟨rfl, hM⟩
theorem btapNum_ok (b : Nat) (bb : List Nat) (bs : List UInt8) (k : Nat) (w : World) (hT : (tap b bb bs false 84).holds w) (hw : widthB k = true) (hk : k ≤ bs.length) : Calls Tryd.prog 42 #[.pointer (some ⟨b, 0, none⟩), .int .i64 k] w fun e w' => e = .returned (.int .u64 ((val (bs.take k) : Nat) : Int)) ∧ Mem w [b] w' [tap b bb (bs.drop k) false 84] := by
  have hM0 := Mem.startT hT
  obtain ⟨v, c, hvb, hM⟩ := hM0.tapeOpen
  clear hM0
  have hlc := rd_len (hM.get 1 rfl)
  have hk8 := widthB_le hw
  refine f_enter 44 Tryd.func42 rfl rfl rfl ?_
  intro a hE
  replace hE : Env a 44 [(0, _), (1, _)] := hE
  refine wp_seq_k (fun K1 hK1 => ?_)
  refine wp_plain [true] rfl rfl ?_
  refine s_assign hE rfl rfl ?_; clear hE a; intro a hE
  refine q_nil ?_
  refine hK1 _ _ ?_
  refine wp_seq_k (fun K2 hK2 => ?_)
  refine wp_seq_k (fun K3 hK3 => ?_)
  refine wp_plain [true, false, true, true, true, true, false, true, true] rfl rfl ?_
  refine s_move hE rfl rfl ?_; clear hE a; intro a hE
  refine s_call hE rfl Tryd.call52 (bwidth_c _ _) rfl ?_
  rintro e w1 ⟨rfl, hN⟩
  refine ⟨_, rfl, trivial, ?_⟩; clear hE a; intro a hE
  replace hM : Mem _ _ w1 [_, _, _] := hM.call0 hN trivial; clear hN
  refine s_not hE rfl rfl ?_; clear hE a; intro a hE
  refine s_move hE rfl rfl ?_; clear hE a; intro a hE
  replace hE := hE.cast 10 rfl (show _ = Value.bool false from (by rw [hw]; rfl))
  refine g_yes hE rfl rfl ?_
  refine s_move hE rfl rfl ?_; clear hE a; intro a hE
  refine g_yes hE rfl rfl ?_
  refine s_move hE rfl rfl ?_; clear hE a; intro a hE
  refine g_yes hE rfl rfl ?_
  refine s_call hE rfl Tryd.call53 (bhas_c b v true false bs c _ _ (hM.get 0 rfl) (hM.get 1 rfl)) rfl ?_
  rintro e w2 ⟨rfl, hN⟩
  refine ⟨_, rfl, trivial, ?_⟩; clear hE a; intro a hE
  replace hM : Mem _ _ w2 [_, _, _] := hM.call0 hN trivial; clear hN
  refine g_yes hE rfl rfl ?_
  refine s_not hE rfl rfl ?_; clear hE a; intro a hE
  refine s_pickf hE rfl rfl rfl ?_; clear hE a; intro a hE
  refine q_nil ?_
  replace hE : Env a 44 [(0, _), (1, _), (4, _), (15, _)] := hE.sel [0, 1, 4, 15] rfl
  refine hK3 _ _ ?_
  replace hE := hE.cast 15 rfl (show _ = Value.bool false from (congrArg Value.bool (by simp; omega)))
  refine wp_cond_false (hE.eval rfl) ?_
  refine wp_skip ?_
  refine hK2 _ _ ?_
  refine wp_seq_k (fun K4 hK4 => ?_)
  refine wp_plain [true] rfl rfl ?_
  refine s_assign hE rfl rfl ?_; clear hE a; intro a hE
  refine q_nil ?_
  refine hK4 _ _ ?_
  refine wp_seq_k (fun K5 hK5 => ?_)
  refine wp_seq_k (fun K6 hK6 => ?_)
  refine wp_plain [true, true] rfl rfl ?_
  refine s_move hE rfl rfl ?_; clear hE a; intro a hE
  refine s_move hE rfl rfl ?_; clear hE a; intro a hE
  refine q_nil ?_
  refine hK6 _ _ ?_
  refine wp_block ?_
  refine c_loop (fun (i : Nat) a w' => i ≤ k ∧ Env a 44 [(0, .pointer (some ⟨b, 0, none⟩)), (1, .int .i64 k), (5, .int .u64 ((val (bs.take i) : Nat) : Int)), (18, .int .i64 k), (19, .int .i64 i)] ∧ Mem w [b] w' [blk b [[v], [.bool true], [.bool false]] [1, 1, 1] 84, rd v 1 bs.length c (bv bs), shr bb]) (fun i => k - i) 0 ⟨Nat.zero_le _, hE.sel [0, 1, 5, 18, 19] rfl, hM⟩ ?_
  clear hE hM a; rintro i a w5 ⟨hi, hE, hM⟩
  refine wp_seq_k (fun K7 hK7 => ?_)
  refine wp_plain [true] rfl rfl ?_
  refine s_bin hE rfl rfl bin_lss rfl ?_; clear hE a; intro a hE
  refine q_nil ?_
  refine hK7 _ _ ?_
  refine wp_seq_k (fun K8 hK8 => ?_)
  refine hE.split 20 rfl (fun hb20 hE' => ?_) (fun hb20 hE' => ?_)
  · replace hE := hE'; clear hE'
    replace hb20 := of_decide_eq_true hb20
    refine wp_cond_true (hE.eval rfl) ?_
    refine wp_skip ?_
    refine hK8 _ _ ?_
    refine wp_seq_k (fun K9 hK9 => ?_)
    refine wp_block ?_
    refine wp_seq_k (fun K10 hK10 => ?_)
    refine wp_plain [true, true] rfl rfl ?_
    refine s_move hE rfl rfl ?_; clear hE a; intro a hE
    refine s_assign hE rfl rfl ?_; clear hE a; intro a hE
    refine q_nil ?_
    replace hE : Env a 44 [(0, _), (1, _), (5, _), (6, _), (18, _), (19, _), (20, _)] := hE.sel [0, 1, 5, 6, 18, 19, 20] rfl
    refine hK10 _ _ ?_
    refine wp_plain [true, true, true, true, true, true, true, true, true, true, true, true] rfl rfl ?_
    refine s_move hE rfl rfl ?_; clear hE a; intro a hE
    refine s_bin hE rfl rfl (bin_shl_nat (s := 8) rfl (by show _ ≤ 64; omega) (wrap_u64 (by omega) (by have := val_lt56 (bs := bs.take i) (by simp; omega); omega))) rfl ?_; clear hE a; intro a hE
    refine s_move hE rfl rfl ?_; clear hE a; intro a hE
    refine s_nilCheck hE rfl rfl ?_; clear hE a; intro a hE
    refine s_fieldAddr hE rfl fo84_0 rfl ?_; clear hE a; intro a hE
    refine s_load1 hE rfl (hM.get 0 rfl) rfl one22 (by intro X h; cases h) rfl ?_; clear hE a; intro a hE
    refine s_move hE rfl rfl ?_; clear hE a; intro a hE
    refine s_indexRd (j := i) hE rfl (hM.get 1 rfl) rfl slt22 (by first | rfl | omega) (by first | omega | (simp; omega) | decide) rfl ?_; clear hE a; intro a p29 hE hc29 hp29
    rw [bv_elem (by omega)] at hc29
    refine s_loadAt1 hE rfl hc29 one5 (by intro X h; cases h) rfl ?_; clear hE a; intro a hE
    refine s_conv hE rfl (cnv_int Tryd.underlying5 Tryd.underlying69 (wrap_u64 (by omega) (by have := (bs.getD i 0).toNat_lt; omega))) rfl ?_; clear hE a; intro a hE
    refine s_bin hE rfl rfl (show Bin _ _ _ _ _ (.int .u64 (((val (bs.take i) * 256 + (bs.getD i 0).toNat : Nat)) : Int)) from by have h1 := val_lt56 (bs := bs.take i) (by simp; omega); have h2 := (bs.getD i 0).toNat_lt; have h3 := shl_or (m := val (bs.take i)) (i := 8) h2; rw [← h3]; exact or_nat_u64 (by omega) (by omega)) rfl ?_; clear hE a; intro a hE
    refine s_assign hE rfl rfl ?_; clear hE a; intro a hE
    refine q_nil ?_
    replace hE : Env a 44 [(0, _), (1, _), (5, _), (6, _), (18, _), (19, _), (20, _)] := hE.sel [0, 1, 5, 6, 18, 19, 20] rfl
    refine q_block_n ?_
    refine hK9 _ _ ?_
    refine wp_plain [true, true] rfl rfl ?_
    refine s_bin hE rfl rfl (bin_add (wrap_i64 (by omega) (by omega))) rfl ?_; clear hE a; intro a hE
    refine s_move hE rfl rfl ?_; clear hE a; intro a hE
    refine q_nil ?_
    replace hE : Env a 44 [(0, _), (1, _), (5, _), (6, _), (18, _), (19, _), (20, _)] := hE.sel [0, 1, 5, 6, 18, 19, 20] rfl
    replace hE := hE.cast 19 rfl (show _ = Value.int .i64 ((i + 1 : Nat) : Int) from congrArg _ (by omega))
    refine ⟨i + 1, ⟨by omega, (hE.cast 5 rfl ?_).sel [0, 1, 5, 18, 19] rfl, hM⟩, by omega⟩
    rw [val_take_succ (by omega)]
  · replace hE := hE'; clear hE'
    replace hb20 := of_decide_eq_false hb20
    obtain rfl : i = k := by omega
    refine wp_cond_false (hE.eval rfl) ?_
    refine wp_exit ?_
    refine q_then_e ?_
    refine q_then_e ?_
    refine q_block_x ?_
    refine hK5 _ _ ?_
    refine wp_seq_k (fun K9 hK9 => ?_)
    refine wp_plain [true, true, true, true, true, true, true, true, true, false] rfl rfl ?_
    refine s_move hE rfl rfl ?_; clear hE a; intro a hE
    refine s_move hE rfl rfl ?_; clear hE a; intro a hE
    refine s_nilCheck hE rfl rfl ?_; clear hE a; intro a hE
    refine s_fieldAddr hE rfl fo84_0 rfl ?_; clear hE a; intro a hE
    refine s_load1 hE rfl (hM.get 0 rfl) rfl one22 (by intro X h; cases h) rfl ?_; clear hE a; intro a hE
    refine s_move hE rfl rfl ?_; clear hE a; intro a hE
    refine s_slice (l := i) (h := bs.length) (mx' := c) hE rfl (hM.get 1 rfl) slt22 ⟨_, rfl⟩ rfl rfl (by simp) (by omega) (by omega) (by omega) (by omega) rfl ?_; clear hE a; intro a v2 hE hr40 hvb40
    replace hr40 := rd_drop rfl (by omega) hr40
    replace hM := hM.addPart 1 rfl hr40 hvb40; clear hr40
    refine s_nilCheck hE rfl rfl ?_; clear hE a; intro a hE
    refine s_fieldAddr hE rfl fo84_0 rfl ?_; clear hE a; intro a hE
    replace hM : Mem _ _ w5 [_, _, _, _] := hM.pick [1, 0, 2, 3] rfl
    refine s_store1 0 hE rfl rfl hM (rd_one (hM.get 1 rfl)).1 (rd_one (hM.get 1 rfl)).2 sz22 rfl rfl (by intro X h; cases h) ?_; intro w3 hM'; clear hM; have hM := hM'; clear hM'
    refine q_nil ?_
    replace hE : Env a 44 [(0, _), (1, _), (5, _), (18, _), (19, _), (20, _)] := hE.sel [0, 1, 5, 18, 19, 20] rfl
    refine hK9 _ _ ?_
    refine wp_seq_k (fun K10 hK10 => ?_)
    refine wp_plain [true, true] rfl rfl ?_
    refine s_move hE rfl rfl ?_; clear hE a; intro a hE
    refine s_assign hE rfl rfl ?_; clear hE a; intro a hE
    refine q_nil ?_
    replace hE : Env a 44 [(0, _), (1, _), (4, _), (5, _), (18, _), (19, _), (20, _)] := hE.sel [0, 1, 4, 5, 18, 19, 20] rfl
    refine hK10 _ _ ?_
    refine wp_ret ?_
    refine f_ret1 hE rfl rfl ?_
    refine ⟨rfl, ?_⟩
    exact (hM.pick [0, 1, 3] rfl).tapeShut (fun x hx => hvb x (hvb40 x hx))
theorem btapNum_bad (b : Nat) (bb : List Nat) (bs : List UInt8) (torn : Bool) (x : Int) (w : World) (hT : (tap b bb bs torn 84).holds w) (h : (widthB x && (!torn && decide (0 ≤ x) && decide (x ≤ (bs.length : Int)))) = false) : Calls Tryd.prog 42 #[.pointer (some ⟨b, 0, none⟩), .int .i64 x] w fun e w' => e = .returned (.int .u64 0) ∧ Mem w [b] w' [tap b bb bs true 84] := by
  have hM0 := Mem.startT hT
  obtain ⟨v, c, hvb, hM⟩ := hM0.tapeOpen
  clear hM0
  have hlc := rd_len (hM.get 1 rfl)
  refine f_enter 44 Tryd.func42 rfl rfl rfl ?_
  intro a hE
  replace hE : Env a 44 [(0, _), (1, _)] := hE
  refine wp_seq_k (fun K1 hK1 => ?_)
  refine wp_plain [true] rfl rfl ?_
  refine s_assign hE rfl rfl ?_; clear hE a; intro a hE
  refine q_nil ?_
  refine hK1 _ _ ?_
  refine wp_seq_k (fun K2 hK2 => ?_)
  refine wp_seq_k (fun K3 hK3 => ?_)
  refine wp_plain [true, false, true, true, true, true, false, true, true] rfl rfl ?_
  refine s_move hE rfl rfl ?_; clear hE a; intro a hE
  refine s_call hE rfl Tryd.call52 (bwidth_c _ _) rfl ?_
  rintro e w1 ⟨rfl, hN⟩
  refine ⟨_, rfl, trivial, ?_⟩; clear hE a; intro a hE
  replace hM : Mem _ _ w1 [_, _, _] := hM.call0 hN trivial; clear hN
  refine s_not hE rfl rfl ?_; clear hE a; intro a hE
  refine s_move hE rfl rfl ?_; clear hE a; intro a hE
  refine hE.split 10 rfl (fun hb10 hE' => ?_) (fun hb10 hE' => ?_)
  · replace hE := hE'; clear hE'
    refine g_no (b := true) hE rfl rfl rfl ?_; clear hE a; intro a hE
    refine g_no (b := true) hE rfl rfl rfl ?_; clear hE a; intro a hE
    refine g_no (b := true) hE rfl rfl rfl ?_; clear hE a; intro a hE
    refine g_no (b := true) hE rfl rfl rfl ?_; clear hE a; intro a hE
    refine s_pickt hE rfl rfl rfl ?_; clear hE a; intro a hE
    refine q_nil ?_
    replace hE : Env a 44 [(0, _), (1, _), (4, _), (15, _)] := hE.sel [0, 1, 4, 15] rfl
    refine hK3 _ _ ?_
    refine wp_cond_true (hE.eval rfl) ?_
    refine wp_seq_k (fun K4 hK4 => ?_)
    refine wp_plain [true, false] rfl rfl ?_
    refine s_move hE rfl rfl ?_; clear hE a; intro a hE
    refine s_call hE rfl Tryd.call54 (btear_c b v true torn _ (hM.get 0 rfl)) rfl ?_
    rintro e w2 ⟨rfl, hN⟩
    refine ⟨_, rfl, trivial, ?_⟩; clear hE a; intro a hE
    replace hM : Mem _ _ w2 [_, _, _] := hM.call1' hN ⟨rfl, trivial⟩; clear hN
    refine q_nil ?_
    replace hE : Env a 44 [(0, _), (1, _), (4, _), (15, _)] := hE.sel [0, 1, 4, 15] rfl
    refine hK4 _ _ ?_
    refine wp_seq_k (fun K5 hK5 => ?_)
    refine wp_plain [true] rfl rfl ?_
    refine s_assign hE rfl rfl ?_; clear hE a; intro a hE
    refine q_nil ?_
    refine hK5 _ _ ?_
    refine wp_ret ?_
    refine q_then_r ?_
    refine f_ret1 hE rfl rfl ?_
    exact ⟨rfl, (hM.pick [0, 1, 2] rfl).tapeShut hvb⟩
  · replace hE := hE'; clear hE'
    refine g_yes hE rfl rfl ?_
    refine s_move hE rfl rfl ?_; clear hE a; intro a hE
    refine g_yes hE rfl rfl ?_
    refine s_move hE rfl rfl ?_; clear hE a; intro a hE
    refine g_yes hE rfl rfl ?_
    refine s_call hE rfl Tryd.call53 (bhas_c b v true torn bs c _ _ (hM.get 0 rfl) (hM.get 1 rfl)) rfl ?_
    rintro e w2 ⟨rfl, hN⟩
    refine ⟨_, rfl, trivial, ?_⟩; clear hE a; intro a hE
    replace hM : Mem _ _ w2 [_, _, _] := hM.call0 hN trivial; clear hN
    refine g_yes hE rfl rfl ?_
    refine s_not hE rfl rfl ?_; clear hE a; intro a hE
    refine s_pickf hE rfl rfl rfl ?_; clear hE a; intro a hE
    refine q_nil ?_
    replace hE : Env a 44 [(0, _), (1, _), (4, _), (15, _)] := hE.sel [0, 1, 4, 15] rfl
    refine hK3 _ _ ?_
    refine hE.split 15 rfl (fun hb15 hE' => ?_) (fun hb15 hE' => ?_)
    · replace hE := hE'; clear hE'
      refine wp_cond_true (hE.eval rfl) ?_
      refine wp_seq_k (fun K4 hK4 => ?_)
      refine wp_plain [true, false] rfl rfl ?_
      refine s_move hE rfl rfl ?_; clear hE a; intro a hE
      refine s_call hE rfl Tryd.call54 (btear_c b v true torn _ (hM.get 0 rfl)) rfl ?_
      rintro e w3 ⟨rfl, hN⟩
      refine ⟨_, rfl, trivial, ?_⟩; clear hE a; intro a hE
      replace hM : Mem _ _ w3 [_, _, _] := hM.call1' hN ⟨rfl, trivial⟩; clear hN
      refine q_nil ?_
      replace hE : Env a 44 [(0, _), (1, _), (4, _), (15, _)] := hE.sel [0, 1, 4, 15] rfl
      refine hK4 _ _ ?_
      refine wp_seq_k (fun K5 hK5 => ?_)
      refine wp_plain [true] rfl rfl ?_
      refine s_assign hE rfl rfl ?_; clear hE a; intro a hE
      refine q_nil ?_
      refine hK5 _ _ ?_
      refine wp_ret ?_
      refine q_then_r ?_
      refine f_ret1 hE rfl rfl ?_
      exact ⟨rfl, (hM.pick [0, 1, 2] rfl).tapeShut hvb⟩
    · replace hE := hE'; clear hE'
      exact absurd h (by rw [not_false' hb10]; rw [Bool.true_and] at hb15 ⊢; rw [not_false' hb15]; decide)
theorem btapBytes_ok (b : Nat) (bb : List Nat) (bs : List UInt8) (k : Nat) (w : World) (hT : (tap b bb bs false 84).holds w) (hk : k ≤ bs.length) : Calls Tryd.prog 43 #[.pointer (some ⟨b, 0, none⟩), .int .i64 k] w fun e w' => ∃ v', e = .returned v' ∧ (∀ x, x ∈ rdB v' k → x ∈ bb) ∧ Mem w [b] w' [rd v' 1 (bs.take k).length k (bv (bs.take k)), tap b bb (bs.drop k) false 84] := by
  have hM0 := Mem.startT hT
  obtain ⟨v, c, hvb, hM⟩ := hM0.tapeOpen
  clear hM0
  have hlc := rd_len (hM.get 1 rfl)
  refine f_enter 29 Tryd.func43 rfl rfl rfl ?_
  intro a hE
  replace hE : Env a 29 [(0, _), (1, _)] := hE
  refine wp_seq_k (fun K1 hK1 => ?_)
  refine wp_plain [true] rfl rfl ?_
  refine s_assign hE rfl rfl ?_; clear hE a; intro a hE
  refine q_nil ?_
  refine hK1 _ _ ?_
  refine wp_seq_k (fun K2 hK2 => ?_)
  refine wp_seq_k (fun K3 hK3 => ?_)
  refine wp_plain [true, true, false, true] rfl rfl ?_
  refine s_move hE rfl rfl ?_; clear hE a; intro a hE
  refine s_move hE rfl rfl ?_; clear hE a; intro a hE
  refine s_call hE rfl Tryd.call53 (bhas_c b v true false bs c _ _ (hM.get 0 rfl) (hM.get 1 rfl)) rfl ?_
  rintro e w1 ⟨rfl, hN⟩
  refine ⟨_, rfl, trivial, ?_⟩; clear hE a; intro a hE
  replace hM : Mem _ _ w1 [_, _, _] := hM.call0 hN trivial; clear hN
  refine s_not hE rfl rfl ?_; clear hE a; intro a hE
  refine q_nil ?_
  replace hE : Env a 29 [(0, _), (1, _), (4, _), (9, _)] := hE.sel [0, 1, 4, 9] rfl
  refine hK3 _ _ ?_
  replace hE := hE.cast 9 rfl (show _ = Value.bool false from (congrArg Value.bool (by simp; omega)))
  refine wp_cond_false (hE.eval rfl) ?_
  refine wp_skip ?_
  refine hK2 _ _ ?_
  refine wp_seq_k (fun K4 hK4 => ?_)
  refine wp_plain [true, true, true, true, true, true, true, true] rfl rfl ?_
  refine s_move hE rfl rfl ?_; clear hE a; intro a hE
  refine s_nilCheck hE rfl rfl ?_; clear hE a; intro a hE
  refine s_fieldAddr hE rfl fo84_0 rfl ?_; clear hE a; intro a hE
  refine s_load1 hE rfl (hM.get 0 rfl) rfl one22 (by intro X h; cases h) rfl ?_; clear hE a; intro a hE
  refine s_move hE rfl rfl ?_; clear hE a; intro a hE
  refine s_move hE rfl rfl ?_; clear hE a; intro a hE
  refine s_slice (l := 0) (h := k) (mx' := k) hE rfl (hM.get 1 rfl) slt22 rfl ⟨_, rfl⟩ ⟨_, rfl⟩ (by simp) (by omega) (by omega) (by omega) (by omega) rfl ?_; clear hE a; intro a v1 hE hr18 hvb18
  replace hr18 := rd_take (by omega) hr18
  replace hM := hM.addPart 1 rfl hr18 hvb18; clear hr18
  refine s_assign hE rfl rfl ?_; clear hE a; intro a hE
  refine q_nil ?_
  replace hE : Env a 29 [(0, _), (1, _), (4, _), (5, _), (9, _)] := hE.sel [0, 1, 4, 5, 9] rfl
  refine hK4 _ _ ?_
  refine wp_seq_k (fun K5 hK5 => ?_)
  refine wp_plain [true, true, true, true, true, true, true, true, true, false] rfl rfl ?_
  refine s_move hE rfl rfl ?_; clear hE a; intro a hE
  refine s_move hE rfl rfl ?_; clear hE a; intro a hE
  refine s_nilCheck hE rfl rfl ?_; clear hE a; intro a hE
  refine s_fieldAddr hE rfl fo84_0 rfl ?_; clear hE a; intro a hE
  refine s_load1 hE rfl (hM.get 1 rfl) rfl one22 (by intro X h; cases h) rfl ?_; clear hE a; intro a hE
  refine s_move hE rfl rfl ?_; clear hE a; intro a hE
  refine s_slice (l := k) (h := bs.length) (mx' := c) hE rfl (hM.get 2 rfl) slt22 ⟨_, rfl⟩ rfl rfl (by simp) (by omega) (by omega) (by omega) (by omega) rfl ?_; clear hE a; intro a v2 hE hr25 hvb25
  replace hr25 := rd_drop rfl (by omega) hr25
  replace hM := hM.addPart 2 rfl hr25 hvb25; clear hr25
  refine s_nilCheck hE rfl rfl ?_; clear hE a; intro a hE
  refine s_fieldAddr hE rfl fo84_0 rfl ?_; clear hE a; intro a hE
  replace hM : Mem _ _ w1 [_, _, _, _, _] := hM.pick [2, 0, 1, 3, 4] rfl
  refine s_store1 0 hE rfl rfl hM (rd_one (hM.get 1 rfl)).1 (rd_one (hM.get 1 rfl)).2 sz22 rfl rfl (by intro X h; cases h) ?_; intro w2 hM'; clear hM; have hM := hM'; clear hM'
  refine q_nil ?_
  replace hE : Env a 29 [(0, _), (1, _), (4, _), (5, _), (9, _)] := hE.sel [0, 1, 4, 5, 9] rfl
  refine hK5 _ _ ?_
  refine wp_seq_k (fun K6 hK6 => ?_)
  refine wp_plain [true, true] rfl rfl ?_
  refine s_move hE rfl rfl ?_; clear hE a; intro a hE
  refine s_assign hE rfl rfl ?_; clear hE a; intro a hE
  refine q_nil ?_
  replace hE : Env a 29 [(0, _), (1, _), (4, _), (9, _)] := hE.sel [0, 1, 4, 9] rfl
  refine hK6 _ _ ?_
  refine wp_ret ?_
  refine f_ret1 hE rfl rfl ?_
  refine ⟨_, rfl, fun x hx => hvb x (hvb18 x hx), ?_⟩
  replace hM := (hM.pick [0, 1, 4, 2] rfl).tapeShut (fun x hx => hvb x (hvb25 x hx))
  exact hM.pick [1, 0] rfl
theorem btapBytes_bad (b : Nat) (bb : List Nat) (bs : List UInt8) (torn : Bool) (x : Int) (w : World) (hT : (tap b bb bs torn 84).holds w) (h : (!torn && decide (0 ≤ x) && decide (x ≤ (bs.length : Int))) = false) : Calls Tryd.prog 43 #[.pointer (some ⟨b, 0, none⟩), .int .i64 x] w fun e w' => e = .returned (.slice none 0 0) ∧ Mem w [b] w' [tap b bb bs true 84] := by
  have hM0 := Mem.startT hT
  obtain ⟨v, c, hvb, hM⟩ := hM0.tapeOpen
  clear hM0
  have hlc := rd_len (hM.get 1 rfl)
  refine f_enter 29 Tryd.func43 rfl rfl rfl ?_
  intro a hE
  replace hE : Env a 29 [(0, _), (1, _)] := hE
  refine wp_seq_k (fun K1 hK1 => ?_)
  refine wp_plain [true] rfl rfl ?_
  refine s_assign hE rfl rfl ?_; clear hE a; intro a hE
  refine q_nil ?_
  refine hK1 _ _ ?_
  refine wp_seq_k (fun K2 hK2 => ?_)
  refine wp_seq_k (fun K3 hK3 => ?_)
  refine wp_plain [true, true, false, true] rfl rfl ?_
  refine s_move hE rfl rfl ?_; clear hE a; intro a hE
  refine s_move hE rfl rfl ?_; clear hE a; intro a hE
  refine s_call hE rfl Tryd.call53 (bhas_c b v true torn bs c _ _ (hM.get 0 rfl) (hM.get 1 rfl)) rfl ?_
  rintro e w1 ⟨rfl, hN⟩
  refine ⟨_, rfl, trivial, ?_⟩; clear hE a; intro a hE
  replace hM : Mem _ _ w1 [_, _, _] := hM.call0 hN trivial; clear hN
  refine s_not hE rfl rfl ?_; clear hE a; intro a hE
  refine q_nil ?_
  replace hE : Env a 29 [(0, _), (1, _), (4, _), (9, _)] := hE.sel [0, 1, 4, 9] rfl
  refine hK3 _ _ ?_
  refine hE.split 9 rfl (fun hb9 hE' => ?_) (fun hb9 hE' => ?_)
  · replace hE := hE'; clear hE'
    refine wp_cond_true (hE.eval rfl) ?_
    refine wp_seq_k (fun K4 hK4 => ?_)
    refine wp_plain [true, false] rfl rfl ?_
    refine s_move hE rfl rfl ?_; clear hE a; intro a hE
    refine s_call hE rfl Tryd.call54 (btear_c b v true torn _ (hM.get 0 rfl)) rfl ?_
    rintro e w2 ⟨rfl, hN⟩
    refine ⟨_, rfl, trivial, ?_⟩; clear hE a; intro a hE
    replace hM : Mem _ _ w2 [_, _, _] := hM.call1' hN ⟨rfl, trivial⟩; clear hN
    refine q_nil ?_
    replace hE : Env a 29 [(0, _), (1, _), (4, _), (9, _)] := hE.sel [0, 1, 4, 9] rfl
    refine hK4 _ _ ?_
    refine wp_seq_k (fun K5 hK5 => ?_)
    refine wp_plain [true] rfl rfl ?_
    refine s_assign hE rfl rfl ?_; clear hE a; intro a hE
    refine q_nil ?_
    refine hK5 _ _ ?_
    refine wp_ret ?_
    refine q_then_r ?_
    refine f_ret1 hE rfl rfl ?_
    exact ⟨rfl, (hM.pick [0, 1, 2] rfl).tapeShut hvb⟩
  · replace hE := hE'; clear hE'
    exact absurd h (by rw [Bool.true_and] at hb9; rw [not_false' hb9]; decide)
theorem btapEnd_c (b : Nat) (bb : List Nat) (bs : List UInt8) (torn : Bool) (w : World) (hT : (tap b bb bs torn 84).holds w) : Calls Tryd.prog 44 #[.pointer (some ⟨b, 0, none⟩)] w fun e w' => e = .returned (.bool (!torn && decide (bs.length = 0))) ∧ Mem w [] w' [] := by
  obtain ⟨h0, hs, v, c, hvb, hB, hr⟩ := hT
  have hM := Mem.startR2 (e := blkR b [[v], [.bool true], [.bool torn]] [1, 1, 1] 84) (f := rd v 1 bs.length c (bv bs)) hB hr rfl rfl
  refine f_enter 13 Tryd.func44 rfl rfl rfl ?_
  intro a hE
  replace hE : Env a 13 [(0, _)] := hE
  refine wp_seq_k (fun K1 hK1 => ?_)
  refine wp_plain [true] rfl rfl ?_
  refine s_assign hE rfl rfl ?_; clear hE a; intro a hE
  refine q_nil ?_
  refine hK1 _ _ ?_
  refine wp_seq_k (fun K2 hK2 => ?_)
  refine wp_plain [true, false, true, true, true, true, true, true, true, true, true] rfl rfl ?_
  refine s_move hE rfl rfl ?_; clear hE a; intro a hE
  refine s_call hE rfl Tryd.call55 (bis_c b v true torn _ (blkR_blk (hM.get 0 rfl))) rfl ?_
  rintro e w1 ⟨rfl, hN⟩
  refine ⟨_, rfl, trivial, ?_⟩; clear hE a; intro a hE
  replace hM : Mem _ _ w1 [_, _] := hM.call0 hN trivial; clear hN
  refine s_move hE rfl rfl ?_; clear hE a; intro a hE
  refine hE.split 5 rfl (fun hb5 hE' => ?_) (fun hb5 hE' => ?_)
  · replace hE := hE'; clear hE'
    refine g_yes hE rfl rfl ?_
    refine s_move hE rfl rfl ?_; clear hE a; intro a hE
    refine g_yes hE rfl rfl ?_
    refine s_nilCheck hE rfl rfl ?_; clear hE a; intro a hE
    refine g_yes hE rfl rfl ?_
    refine s_fieldAddr hE rfl fo84_0 rfl ?_; clear hE a; intro a hE
    refine g_yes hE rfl rfl ?_
    refine s_load1 hE rfl (blkR_blk (hM.get 0 rfl)) rfl one22 (by intro X h; cases h) rfl ?_; clear hE a; intro a hE
    refine g_yes hE rfl rfl ?_
    refine s_len hE rfl Tryd.underlying22 (rd_slice (hM.get 1 rfl)) rfl ?_; clear hE a; intro a hE
    refine g_yes hE rfl rfl ?_
    refine s_bin hE rfl rfl bin_eql rfl ?_; clear hE a; intro a hE
    refine s_pickt hE rfl rfl rfl ?_; clear hE a; intro a hE
    refine s_assign hE rfl rfl ?_; clear hE a; intro a hE
    refine q_nil ?_
    replace hE : Env a 13 [(2, _)] := hE.sel [2] rfl
    refine hK2 _ _ ?_
    refine wp_ret ?_
    refine f_ret1 hE rfl rfl ?_
    exact ⟨by simp at hb5; simp [hb5], hM.nil⟩
  · replace hE := hE'; clear hE'
    refine g_no (b := false) hE rfl rfl rfl ?_; clear hE a; intro a hE
    refine g_no (b := false) hE rfl rfl rfl ?_; clear hE a; intro a hE
    refine g_no (b := false) hE rfl rfl rfl ?_; clear hE a; intro a hE
    refine g_no (b := false) hE rfl rfl rfl ?_; clear hE a; intro a hE
    refine g_no (b := false) hE rfl rfl rfl ?_; clear hE a; intro a hE
    refine g_no (b := false) hE rfl rfl rfl ?_; clear hE a; intro a hE
    refine s_pickf hE rfl rfl rfl ?_; clear hE a; intro a hE
    refine s_assign hE rfl rfl ?_; clear hE a; intro a hE
    refine q_nil ?_
    replace hE : Env a 13 [(2, _)] := hE.sel [2] rfl
    refine hK2 _ _ ?_
    refine wp_ret ?_
    refine f_ret1 hE rfl rfl ?_
    exact ⟨by simp at hb5; simp [hb5], hM.nil⟩
theorem bopen_c (bs : List UInt8) (v : Value) (c : Nat) (w : World) (hr : (rd v 1 bs.length c (bv bs)).holds w) (hb : bs.length ≤ 140737488355328) : Calls Tryd.prog 41 #[v] w fun e w' => ∃ b bb, e = .returned (.pointer (some ⟨b, 0, none⟩)) ∧ (∀ x, x ∈ bb → w.heap.size ≤ x) ∧ Mem w [] w' [tap b bb bs false 84] := by
  have hM := Mem.startR1 hr rfl
  refine f_enter 7 Tryd.func41 rfl rfl rfl ?_
  intro a hE
  replace hE : Env a 7 [(0, _)] := hE
  refine wp_seq_k (fun K1 hK1 => ?_)
  refine wp_plain [true] rfl rfl ?_
  refine s_assign hE rfl rfl ?_; clear hE a; intro a hE
  refine q_nil ?_
  refine hK1 _ _ ?_
  refine wp_seq_k (fun K2 hK2 => ?_)
  refine wp_plain [true, false, true, false, true] rfl rfl ?_
  refine s_move hE rfl rfl ?_; clear hE a; intro a hE
  refine s_call hE rfl Tryd.call51 (bclone_c bs v c _ (hM.get 0 rfl) hb) rfl ?_
  rintro e w1 ⟨v4, rfl, hN⟩
  refine ⟨_, rfl, trivial, ?_⟩; clear hE a; intro a hE
  replace hM : Mem _ _ w1 [_, _] := hM.call0 hN ⟨rfl, trivial⟩; clear hN
  have hv4 := own_one (hM.get 0 rfl)
  refine s_buildS [[v4], [.bool true]] hE rfl zero84 rfl fpl84 ⟨hv4.1, rfl, rfl, rfl, trivial⟩ rfl ?_; clear hE a; intro a hE
  refine s_box (ss := [[v4], [.bool true], [.bool false]]) [1, 1, 1] hE hM rfl rfl rfl rfl ?_; clear hE a; intro a b6 w2 hE hM'
  clear hM; have hM := hM'; clear hM'
  refine s_assign hE rfl rfl ?_; clear hE a; intro a hE
  refine q_nil ?_
  replace hE : Env a 7 [(2, _)] := hE.sel [2] rfl
  refine hK2 _ _ ?_
  refine wp_ret ?_
  refine f_ret1 hE rfl rfl ?_
  have hnew := hM.new _ (List.mem_cons_of_mem _ (List.mem_cons_self ..))
  obtain ⟨cc, hM⟩ := (hM.pick [1, 0, 2] rfl).freeze
  replace hM := ((hM.toShr).pick [2, 0, 1] rfl).tapeShut (fun x hx => hx)
  exact ⟨_, _, rfl, fun x hx => (hnew x (rdB_sub hx)).resolve_left (by simp), hM⟩
theorem btapNum_c (b : Nat) (bb : List Nat) (bs : List UInt8) (torn : Bool) (x : Int) (w : World) (hT : (tap b bb bs torn 84).holds w) : Calls Tryd.prog 42 #[.pointer (some ⟨b, 0, none⟩), .int .i64 x] w fun e w' => e = .returned (.int .u64 (((tNum bs torn x).1 : Nat) : Int)) ∧ Mem w [b] w' [tap b bb (tNum bs torn x).2.1 (tNum bs torn x).2.2 84] := by
  unfold tNum
  split
  · rename_i h
    simp only [numOk, Bool.and_eq_true, Bool.not_eq_true', decide_eq_true_eq] at h
    obtain ⟨h1, ⟨h2, h3⟩, h4⟩ := h
    subst h2
    obtain ⟨k, rfl⟩ := Int.eq_ofNat_of_zero_le h3
    exact btapNum_ok b bb bs k w hT h1 (by omega)
  · rename_i h
    exact btapNum_bad b bb bs torn x w hT (by simpa only [numOk, Bool.not_eq_true] using h)
theorem btapBytes_c (b : Nat) (bb : List Nat) (bs : List UInt8) (torn : Bool) (x : Int) (w : World) (hT : (tap b bb bs torn 84).holds w) : Calls Tryd.prog 43 #[.pointer (some ⟨b, 0, none⟩), .int .i64 x] w fun e w' => ∃ v' c, e = .returned v' ∧ (∀ y, y ∈ rdB v' c → y ∈ bb) ∧ Mem w [b] w' [rd v' 1 (tBytes bs torn x).1.length c (bv (tBytes bs torn x).1), tap b bb (tBytes bs torn x).2.1 (tBytes bs torn x).2.2 84] := by
  unfold tBytes
  split
  · rename_i h
    simp only [bytesOk, Bool.and_eq_true, Bool.not_eq_true', decide_eq_true_eq] at h
    obtain ⟨⟨h2, h3⟩, h4⟩ := h
    subst h2
    obtain ⟨k, rfl⟩ := Int.eq_ofNat_of_zero_le h3
    refine (btapBytes_ok b bb bs k w hT (by omega)).mono ?_
    rintro e w' ⟨v', rfl, hb, hM⟩
    exact ⟨v', k, rfl, hb, hM⟩
  · rename_i h
    refine (btapBytes_bad b bb bs torn x w hT (by simpa only [bytesOk, Bool.not_eq_true] using h)).mono ?_
    rintro e w' ⟨rfl, hM⟩
    exact ⟨_, 0, rfl, fun y hy => by simp [rdB] at hy, hM.addRd (rd_nil _) rfl (fun y hy => by simp [rd, rdB] at hy)⟩
theorem bparts_c (row : List UInt8) (v : Value) (c : Nat) (w : World) (hr : (rd v 1 row.length c (bv row)).holds w) (hlen : row.length ≤ 140737488355328) : Calls Tryd.prog 32 #[v] w fun e w' => ∃ pv vs bb, e = .returned (.tuple #[.int .u8 ((pParts row).1.toNat : Int), pv, .int .i64 (((pParts row).2.2 : Nat) : Int)]) ∧ (∀ x, x ∈ bb → w.heap.size ≤ x) ∧ Mem w [] w' [own pv 1 (pParts row).2.1.length vs, rdv bb vs (pParts row).2.1] := by
  have hM := Mem.startR1 hr rfl
  refine f_enter 33 Tryd.func32 rfl rfl rfl ?_
  intro a hE
  replace hE : Env a 33 [(0, _)] := hE
  refine wp_seq_k (fun K1 hK1 => ?_)
  refine wp_plain [true, true, true] rfl rfl ?_
  refine s_assign hE rfl rfl ?_; clear hE a; intro a hE
  refine s_assign hE rfl rfl ?_; clear hE a; intro a hE
  refine s_assign hE rfl rfl ?_; clear hE a; intro a hE
  refine q_nil ?_
  refine hK1 _ _ ?_
  refine wp_seq_k (fun K2 hK2 => ?_)
  refine wp_plain [true, false, true] rfl rfl ?_
  refine s_move hE rfl rfl ?_; clear hE a; intro a hE
  refine s_call hE rfl Tryd.call41 (bopen_c row v c _ (hM.get 0 rfl) hlen) rfl ?_
  rintro e w1 ⟨b8, bb, rfl, hbb, hN⟩
  refine ⟨_, rfl, trivial, ?_⟩; clear hE a; intro a hE
  replace hM : Mem _ _ w1 [_, _] := hM.callN hN (fun e he x hx => by rw [List.mem_singleton.1 he] at hx; exact hbb x hx); clear hN
  skip
  refine s_assign hE rfl rfl ?_; clear hE a; intro a hE
  refine q_nil ?_
  replace hE : Env a 33 [(2, _), (3, _), (4, _), (5, _)] := hE.sel [2, 3, 4, 5] rfl
  refine hK2 _ _ ?_
  refine wp_seq_k (fun K3 hK3 => ?_)
  refine wp_plain [true, false, true, true] rfl rfl ?_
  refine s_move hE rfl rfl ?_; clear hE a; intro a hE
  refine s_call hE rfl Tryd.call42 (btapNum_c b8 bb _ _ _ _ (hM.get 0 rfl)) rfl ?_
  rintro e w2 ⟨rfl, hN⟩
  refine ⟨_, rfl, trivial, ?_⟩; clear hE a; intro a hE
  replace hM : Mem _ _ w2 [_, _] := hM.call1 hN (fun f hf x hx => by rw [List.mem_singleton.1 hf] at hx; exact .inl hx); clear hN
  refine s_conv hE rfl (cnv_int Tryd.underlying69 Tryd.underlying5 (wrap_u8_ofNat _)) rfl ?_; clear hE a; intro a hE
  refine s_assign hE rfl rfl ?_; clear hE a; intro a hE
  refine q_nil ?_
  replace hE : Env a 33 [(2, _), (3, _), (4, _), (5, _)] := hE.sel [2, 3, 4, 5] rfl
  refine hK3 _ _ ?_
  refine wp_seq_k (fun K4 hK4 => ?_)
  refine wp_plain [true, false, true] rfl rfl ?_
  refine s_move hE rfl rfl ?_; clear hE a; intro a hE
  refine s_call hE rfl Tryd.call42 (btapNum_c b8 bb _ _ _ _ (hM.get 0 rfl)) rfl ?_
  rintro e w3 ⟨rfl, hN⟩
  refine ⟨_, rfl, trivial, ?_⟩; clear hE a; intro a hE
  replace hM : Mem _ _ w3 [_, _] := hM.call1 hN (fun f hf x hx => by rw [List.mem_singleton.1 hf] at hx; exact .inl hx); clear hN
  refine s_assign hE rfl rfl ?_; clear hE a; intro a hE
  refine q_nil ?_
  replace hE : Env a 33 [(2, _), (3, _), (4, _), (5, _), (6, _)] := hE.sel [2, 3, 4, 5, 6] rfl
  refine hK4 _ _ ?_
  refine wp_seq_k (fun K5 hK5 => ?_)
  refine wp_seq_k (fun K6 hK6 => ?_)
  refine wp_plain [true, true] rfl rfl ?_
  refine s_move hE rfl rfl ?_; clear hE a; intro a hE
  refine s_bin hE rfl rfl bin_gtr rfl ?_; clear hE a; intro a hE
  refine q_nil ?_
  replace hE : Env a 33 [(2, _), (3, _), (4, _), (5, _), (6, _), (15, _)] := hE.sel [2, 3, 4, 5, 6, 15] rfl
  refine hK6 _ _ ?_
  refine hE.split 15 rfl (fun hb15 hE' => ?_) (fun hb15 hE' => ?_)
  · replace hE := hE'; clear hE'
    replace hb15 := of_decide_eq_true hb15
    refine wp_cond_true (hE.eval rfl) ?_
    refine wp_seq_k (fun K7 hK7 => ?_)
    refine wp_plain [true, true, true] rfl rfl ?_
    refine s_assign hE rfl rfl ?_; clear hE a; intro a hE
    refine s_assign hE rfl rfl ?_; clear hE a; intro a hE
    refine s_assign hE rfl rfl ?_; clear hE a; intro a hE
    refine q_nil ?_
    refine hK7 _ _ ?_
    refine wp_ret ?_
    refine q_then_r ?_
    refine f_ret3 hE rfl rfl rfl rfl ?_
    have hp : pParts row = (0, [], 4) := by unfold pParts; rw [if_pos]; have : (pC row).1 = (tNum (tNum row false 1).2.1 (tNum row false 1).2.2 1).1 := rfl; omega
    rw [hp]; exact ⟨_, [], [], rfl, by simp, (hM.nil.rdvNil0).addNil 1⟩
  · replace hE := hE'; clear hE'
    replace hb15 := of_decide_eq_false hb15
    have h16 : ¬ 16 < (pC row).1 := fun h => hb15 (by have : (pC row).1 = (tNum (tNum row false 1).2.1 (tNum row false 1).2.2 1).1 := rfl; omega)
    refine wp_cond_false (hE.eval rfl) ?_
    refine wp_skip ?_
    refine hK5 _ _ ?_
    refine wp_seq_k (fun K7 hK7 => ?_)
    refine wp_seq_k (fun K8 hK8 => ?_)
    refine wp_plain [true, true] rfl rfl ?_
    refine s_move hE rfl rfl ?_; clear hE a; intro a hE
    refine s_move hE rfl rfl ?_; clear hE a; intro a hE
    refine q_nil ?_
    refine hK8 _ _ ?_
    refine wp_block ?_
    replace hM := ((hM.pick [0] rfl).rdvTap).addNil 1
    refine c_loop (fun (i : Nat) a w' => i ≤ (pC row).1 ∧ ∃ pv vs, Env a 33 [(2, .int .u8 ((UInt8.ofNat (pA row).1).toNat : Int)), (3, pv), (5, .pointer (some ⟨b8, 0, none⟩)), (16, .int .u64 (((pC row).1 : Nat) : Int)), (17, .int .u64 i)] ∧ Mem w [] w' [own pv 1 i vs, rdv bb vs (pAt (pC row).2.1 (pC row).2.2 i).1, tap b8 bb (pAt (pC row).2.1 (pC row).2.2 i).2.1 (pAt (pC row).2.1 (pC row).2.2 i).2.2 84]) (fun i => (pC row).1 - i) 0 ⟨Nat.zero_le _, _, [], hE.sel [2, 3, 5, 16, 17] rfl, hM⟩ ?_
    clear hE hM a; rintro i a w9 ⟨hi, pv, vs, hE, hM⟩
    refine wp_seq_k (fun K9 hK9 => ?_)
    refine wp_plain [true] rfl rfl ?_
    refine s_bin hE rfl rfl bin_lss rfl ?_; clear hE a; intro a hE
    refine q_nil ?_
    refine hK9 _ _ ?_
    refine wp_seq_k (fun K10 hK10 => ?_)
    refine hE.split 18 rfl (fun hb18 hE' => ?_) (fun hb18 hE' => ?_)
    · replace hE := hE'; clear hE'
      replace hb18 := of_decide_eq_true hb18
      refine wp_cond_true (hE.eval rfl) ?_
      refine wp_skip ?_
      refine hK10 _ _ ?_
      refine wp_seq_k (fun K11 hK11 => ?_)
      refine wp_block ?_
      refine wp_plain [true, true, true, false, true, false, false, false, true] rfl rfl ?_
      refine s_move hE rfl rfl ?_; clear hE a; intro a hE
      refine s_move hE rfl rfl ?_; clear hE a; intro a hE
      refine s_move hE rfl rfl ?_; clear hE a; intro a hE
      replace hM : Mem _ _ w9 [_, _, _] := hM.pick [2, 0, 1] rfl
      refine s_call hE rfl Tryd.call42 (btapNum_c b8 bb _ _ _ _ (hM.get 0 rfl)) rfl ?_
      rintro e w10 ⟨rfl, hN⟩
      refine ⟨_, rfl, trivial, ?_⟩; clear hE a; intro a hE
      replace hM : Mem _ _ w10 [_, _, _] := hM.call1 hN (fun f hf x hx => by rw [List.mem_singleton.1 hf] at hx; exact .inl hx); clear hN
      refine s_conv hE rfl (cnv_int Tryd.underlying69 Tryd.underlying3 (wrap_i64 (by omega) (by have := tNum4_lt (bs := (pAt (pC row).2.1 (pC row).2.2 i).2.1) (torn := (pAt (pC row).2.1 (pC row).2.2 i).2.2); omega))) rfl ?_; clear hE a; intro a hE
      refine s_call hE rfl Tryd.call43 (btapBytes_c b8 bb _ _ _ _ (hM.get 0 rfl)) rfl ?_
      rintro e w11 ⟨v24, c24, rfl, hv24, hN⟩
      refine ⟨_, rfl, trivial, ?_⟩; clear hE a; intro a hE
      replace hM : Mem _ _ w11 [_, _, _, _] := hM.call1 hN (fun f hf x hx => (List.mem_cons.1 hf).elim (fun h => by subst h; exact .inl (hv24 x hx)) (fun h => by rw [List.mem_singleton.1 h] at hx; exact .inl hx)); clear hN
      refine s_buildSlice (xs := [.tmp 24]) ([v24]) hE hM sl57 rfl rfl rfl (by intro v hv; rw [List.mem_singleton.1 hv, (rd_one (hM.get 0 rfl)).1]; rfl) (by simp [(rd_one (hM.get 0 rfl)).1]) rfl rfl rfl ?_; clear hE a; intro a v25 w12 hE hM'
      clear hM; have hM := hM'; clear hM'
      have h24 := (rd_one (hM.get 1 rfl)).2
      replace hM : Mem _ _ w12 [_, _, _, _, _] := hM.pick [3, 0, 1, 2, 4] rfl
      obtain ⟨cy, hy⟩ := own_rd (hM.get 1 rfl)
      refine s_append hE rfl rfl hM sl57 (Src.rd Tryd.underlying57 hy (one1 h24)) (len47 (by omega)) (by omega) (by intro X h; cases h) rfl ?_; clear hE a hy; intro a v26 w13 hE hM'
      clear hM; have hM := hM'; clear hM'
      replace hM : Mem _ _ w13 [_, _, _, _] := hM.pick [0, 2, 3, 4] rfl
      replace hM : Mem _ _ w13 [_, _, _, _] := hM.pick [1, 3, 0, 2] rfl
      replace hM := hM.rdvSnoc hv24
      refine s_assign hE rfl rfl ?_; clear hE a; intro a hE
      refine q_nil ?_
      replace hE : Env a 33 [(2, _), (3, _), (5, _), (16, _), (17, _), (18, _)] := hE.sel [2, 3, 5, 16, 17, 18] rfl
      refine q_block_n ?_
      refine hK11 _ _ ?_
      refine wp_plain [true, true] rfl rfl ?_
      refine s_bin hE rfl rfl (bin_add (wrap_u64 (by omega) (by omega))) rfl ?_; clear hE a; intro a hE
      refine s_move hE rfl rfl ?_; clear hE a; intro a hE
      refine q_nil ?_
      replace hE : Env a 33 [(2, _), (3, _), (5, _), (16, _), (17, _), (18, _)] := hE.sel [2, 3, 5, 16, 17, 18] rfl
      replace hE := hE.cast 17 rfl (show _ = Value.int .u64 ((i + 1 : Nat) : Int) from congrArg _ (by omega))
      replace hM : Mem _ _ w13 [_, _, _] := hM.pick [1, 0, 2] rfl
      exact ⟨i + 1, ⟨by omega, _, _, hE.sel [2, 3, 5, 16, 17] rfl, hM⟩, by omega⟩
    · replace hE := hE'; clear hE'
      replace hb18 := of_decide_eq_false hb18
      obtain rfl : i = (pC row).1 := by omega
      refine wp_cond_false (hE.eval rfl) ?_
      refine wp_exit ?_
      refine q_then_e ?_
      refine q_then_e ?_
      refine q_block_x ?_
      refine hK7 _ _ ?_
      refine wp_seq_k (fun K11 hK11 => ?_)
      refine wp_seq_k (fun K12 hK12 => ?_)
      refine wp_plain [true, false, true] rfl rfl ?_
      refine s_move hE rfl rfl ?_; clear hE a; intro a hE
      refine s_call hE rfl Tryd.call44 (btapEnd_c b8 bb _ _ _ (hM.get 2 rfl)) rfl ?_
      rintro e w10 ⟨rfl, hN⟩
      refine ⟨_, rfl, trivial, ?_⟩; clear hE a; intro a hE
      replace hM : Mem _ _ w10 [_, _, _] := hM.call0 hN trivial; clear hN
      refine s_not hE rfl rfl ?_; clear hE a; intro a hE
      refine q_nil ?_
      replace hE : Env a 33 [(2, _), (3, _), (5, _), (16, _), (17, _), (18, _), (30, _)] := hE.sel [2, 3, 5, 16, 17, 18, 30] rfl
      refine hK12 _ _ ?_
      refine hE.split 30 rfl (fun hb30 hE' => ?_) (fun hb30 hE' => ?_)
      · replace hE := hE'; clear hE'
        refine wp_cond_true (hE.eval rfl) ?_
        refine wp_seq_k (fun K13 hK13 => ?_)
        refine wp_plain [true, true, true] rfl rfl ?_
        refine s_assign hE rfl rfl ?_; clear hE a; intro a hE
        refine s_assign hE rfl rfl ?_; clear hE a; intro a hE
        refine s_assign hE rfl rfl ?_; clear hE a; intro a hE
        refine q_nil ?_
        refine hK13 _ _ ?_
        refine wp_ret ?_
        refine q_then_r ?_
        refine f_ret3 hE rfl rfl rfl rfl ?_
        have hp : pParts row = (0, [], 4) := by unfold pParts; rw [if_neg h16, if_neg]; have := not_true hb30; rw [Bool.eq_false_iff] at this; exact this
        rw [hp]; exact ⟨_, [], [], rfl, by simp, (hM.nil.rdvNil0).addNil 1⟩
      · replace hE := hE'; clear hE'
        refine wp_cond_false (hE.eval rfl) ?_
        refine wp_skip ?_
        refine hK11 _ _ ?_
        refine wp_seq_k (fun K13 hK13 => ?_)
        refine wp_plain [true, true, true, true, true] rfl rfl ?_
        refine s_move hE rfl rfl ?_; clear hE a; intro a hE
        refine s_move hE rfl rfl ?_; clear hE a; intro a hE
        refine s_assign hE rfl rfl ?_; clear hE a; intro a hE
        refine s_assign hE rfl rfl ?_; clear hE a; intro a hE
        refine s_assign hE rfl rfl ?_; clear hE a; intro a hE
        refine q_nil ?_
        replace hE : Env a 33 [(2, _), (3, _), (4, _), (5, _), (16, _), (17, _), (18, _), (30, _)] := hE.sel [2, 3, 4, 5, 16, 17, 18, 30] rfl
        refine hK13 _ _ ?_
        refine wp_ret ?_
        refine f_ret3 hE rfl rfl rfl rfl ?_
        have hp : pParts row = (UInt8.ofNat (pA row).1, (pR row).1, 0) := by unfold pParts; rw [if_neg h16, if_pos]; exact not_false' hb30
        rw [hp]; refine ⟨_, vs, bb, rfl, hbb, ?_⟩
        have hl := pAt_length (pC row).2.1 (pC row).2.2 (pC row).1
        show Mem _ _ _ [own _ 1 (pAt (pC row).2.1 (pC row).2.2 (pC row).1).1.length vs, _]
        rw [hl]; exact hM.pick [0, 1] rfl
theorem brow_c (dm : UInt8) (bb : List Nat) (ps : List (List UInt8)) (v : Value) (vs : List Value) (c : Nat) (w : World) (hv : (rd v 1 ps.length c vs).holds w) (hp : (rdv bb vs ps).holds w) (hlen : rowBytes ps ≤ 140737488355328) : Calls Tryd.prog 31 #[.int .u8 dm.toNat, v] w fun e w' => ∃ v', e = .returned (.tuple #[v', .int .i64 (((pRow dm ps).2 : Nat) : Int)]) ∧ Mem w [] w' [own v' 1 (pRow dm ps).1.length (bv (pRow dm ps).1)] := by
  have hM := Mem.startR2 hv hp rfl rfl
  have hvl : vs.length = ps.length := by have := hv.1; omega
  refine f_enter 32 Tryd.func31 rfl rfl rfl ?_
  intro a hE
  replace hE : Env a 32 [(0, _), (1, _)] := hE
  refine wp_seq_k (fun K1 hK1 => ?_)
  refine wp_plain [true, true] rfl rfl ?_
  refine s_assign hE rfl rfl ?_; clear hE a; intro a hE
  refine s_assign hE rfl rfl ?_; clear hE a; intro a hE
  refine q_nil ?_
  refine hK1 _ _ ?_
  refine wp_seq_k (fun K2 hK2 => ?_)
  refine wp_seq_k (fun K3 hK3 => ?_)
  refine wp_plain [true, true, true] rfl rfl ?_
  refine s_move hE rfl rfl ?_; clear hE a; intro a hE
  refine s_len hE rfl Tryd.underlying57 (rd_slice (hM.get 0 rfl)) rfl ?_; clear hE a; intro a hE
  refine s_bin hE rfl rfl bin_gtr rfl ?_; clear hE a; intro a hE
  refine q_nil ?_
  replace hE : Env a 32 [(0, _), (1, _), (4, _), (5, _), (11, _)] := hE.sel [0, 1, 4, 5, 11] rfl
  refine hK3 _ _ ?_
  refine hE.split 11 rfl (fun hb11 hE' => ?_) (fun hb11 hE' => ?_)
  · replace hE := hE'; clear hE'
    replace hb11 := of_decide_eq_true hb11
    refine wp_cond_true (hE.eval rfl) ?_
    refine wp_seq_k (fun K4 hK4 => ?_)
    refine wp_plain [true, true] rfl rfl ?_
    refine s_assign hE rfl rfl ?_; clear hE a; intro a hE
    refine s_assign hE rfl rfl ?_; clear hE a; intro a hE
    refine q_nil ?_
    refine hK4 _ _ ?_
    refine wp_ret ?_
    refine q_then_r ?_
    refine f_ret2 hE rfl rfl rfl ?_
    have hq : pRow dm ps = ([], 3) := by unfold pRow; rw [if_pos (by omega)]
    rw [hq]; exact ⟨_, rfl, hM.nil.addNil 1⟩
  · replace hE := hE'; clear hE'
    replace hb11 := of_decide_eq_false hb11
    refine wp_cond_false (hE.eval rfl) ?_
    refine wp_skip ?_
    refine hK2 _ _ ?_
    refine wp_seq_k (fun K4 hK4 => ?_)
    refine wp_plain [true, true, true, true, false, true] rfl rfl ?_
    refine s_move hE rfl rfl ?_; clear hE a; intro a hE
    refine s_move hE rfl rfl ?_; clear hE a; intro a hE
    refine s_len hE rfl Tryd.underlying57 (rd_slice (hM.get 0 rfl)) rfl ?_; clear hE a; intro a hE
    refine s_conv hE rfl (cnv_int Tryd.underlying3 Tryd.underlying5 (wrap_u8_ofNat _)) rfl ?_; clear hE a; intro a hE
    refine s_buildSlice (xs := [.tmp 12, .tmp 15]) (bv [dm, UInt8.ofNat ps.length]) hE hM sl22 rfl rfl rfl (by intro v hv; simp at hv; rcases hv with rfl | rfl <;> rfl) rfl rfl rfl rfl ?_; clear hE a; intro a v16 w1 hE hM'
    clear hM; have hM := hM'; clear hM'
    refine s_assign hE rfl rfl ?_; clear hE a; intro a hE
    refine q_nil ?_
    replace hE : Env a 32 [(1, _), (4, _), (5, _), (6, _), (11, _)] := hE.sel [1, 4, 5, 6, 11] rfl
    refine hK4 _ _ ?_
    refine wp_seq_k (fun K5 hK5 => ?_)
    refine wp_seq_k (fun K6 hK6 => ?_)
    refine wp_plain [true, true, true] rfl rfl ?_
    refine s_move hE rfl rfl ?_; clear hE a; intro a hE
    refine s_len hE rfl Tryd.underlying57 (rd_slice (hM.get 1 rfl)) rfl ?_; clear hE a; intro a hE
    refine s_move hE rfl rfl ?_; clear hE a; intro a hE
    refine q_nil ?_
    refine hK6 _ _ ?_
    refine wp_block ?_
    refine c_loop (fun (i : Nat) a w' => i ≤ ps.length ∧ ∃ vo, Env a 32 [(1, v), (6, vo), (17, v), (18, .int .i64 ps.length), (19, .int .i64 i)] ∧ Mem w [] w' [own vo 1 (rowBs dm ps i).length (bv (rowBs dm ps i)), rd v 1 ps.length c vs, rdv bb vs ps]) (fun i => ps.length - i) 0 ⟨Nat.zero_le _, _, hE.sel [1, 6, 17, 18, 19] rfl, hM⟩ ?_
    clear hE hM a; rintro i a w9 ⟨hi, vo, hE, hM⟩
    refine wp_seq_k (fun K7 hK7 => ?_)
    refine wp_plain [true] rfl rfl ?_
    refine s_bin hE rfl rfl bin_lss rfl ?_; clear hE a; intro a hE
    refine q_nil ?_
    refine hK7 _ _ ?_
    refine wp_seq_k (fun K8 hK8 => ?_)
    refine hE.split 20 rfl (fun hb20 hE' => ?_) (fun hb20 hE' => ?_)
    · replace hE := hE'; clear hE'
      replace hb20 := of_decide_eq_true hb20
      have hle := rowBs_le dm ps (i + 1)
      rw [rowBs_succ (by omega)] at hle
      simp only [List.length_append, laid_length] at hle
      refine wp_cond_true (hE.eval rfl) ?_
      refine wp_skip ?_
      refine hK8 _ _ ?_
      refine wp_seq_k (fun K9 hK9 => ?_)
      refine wp_block ?_
      refine wp_seq_k (fun K10 hK10 => ?_)
      refine wp_plain [true, true, true] rfl rfl ?_
      refine s_indexRd (j := i) hE rfl (hM.get 1 rfl) rfl slt57 (by first | rfl | omega) (by first | omega | (simp; omega) | decide) rfl ?_; clear hE a; intro a p21 hE hc21 hp21
      rw [elem1 (by omega)] at hc21
      refine s_loadAt1 hE rfl hc21 one22 (by intro X h; cases h) rfl ?_; clear hE a; intro a hE
      refine s_assign hE rfl rfl ?_; clear hE a; intro a hE
      refine q_nil ?_
      replace hE : Env a 32 [(1, _), (6, _), (8, _), (17, _), (18, _), (19, _), (20, _)] := hE.sel [1, 6, 8, 17, 18, 19, 20] rfl
      refine hK10 _ _ ?_
      refine wp_plain [true, true, true, true, false, true, false, true] rfl rfl ?_
      refine s_move hE rfl rfl ?_; clear hE a; intro a hE
      refine s_move hE rfl rfl ?_; clear hE a; intro a hE
      refine s_len hE rfl Tryd.underlying22 (rd_slice (Exists.choose_spec (rdv_get (hM.get 2 rfl) (i := i) (by omega)))) rfl ?_; clear hE a; intro a hE
      refine s_conv hE rfl (cnv_int Tryd.underlying3 Tryd.underlying69 (wrap_u64 (by omega) (by omega))) rfl ?_; clear hE a; intro a hE
      obtain ⟨cl, hpi⟩ := rdv_get (hM.get 2 rfl) (i := i) (by omega)
      refine s_call hE rfl Tryd.call40 (blay_c vo (rowBs dm ps i) 4 (ps.getD i []).length _ (hM.get 0 rfl) (by omega) (by omega)) rfl ?_
      rintro e w10 ⟨vl, rfl, hN⟩
      refine ⟨_, rfl, trivial, ?_⟩; clear hE a; intro a hE
      replace hM : Mem _ _ w10 [_, _, _] := hM.call1' hN ⟨rfl, trivial⟩; clear hN
      refine s_move hE rfl rfl ?_; clear hE a; intro a hE
      obtain ⟨ca, hpi2⟩ := rdv_get (hM.get 2 rfl) (i := i) (by omega)
      refine s_append hE rfl rfl hM sl22 (Src.rd Tryd.underlying22 hpi2 (bv_one _)) (len47 (by omega)) (by omega) (by intro X h; cases h) rfl ?_; clear hE a hpi2; intro a v29 w11 hE hM'; clear hM; have hM := hM'; clear hM'
      refine s_assign hE rfl rfl ?_; clear hE a; intro a hE
      refine q_nil ?_
      replace hE : Env a 32 [(1, _), (6, _), (8, _), (17, _), (18, _), (19, _), (20, _)] := hE.sel [1, 6, 8, 17, 18, 19, 20] rfl
      refine q_block_n ?_
      refine hK9 _ _ ?_
      refine wp_plain [true, true] rfl rfl ?_
      refine s_bin hE rfl rfl (bin_add (wrap_i64 (by omega) (by omega))) rfl ?_; clear hE a; intro a hE
      refine s_move hE rfl rfl ?_; clear hE a; intro a hE
      refine q_nil ?_
      replace hE : Env a 32 [(1, _), (6, _), (8, _), (17, _), (18, _), (19, _), (20, _)] := hE.sel [1, 6, 8, 17, 18, 19, 20] rfl
      replace hE := hE.cast 19 rfl (show _ = Value.int .i64 ((i + 1 : Nat) : Int) from congrArg _ (by omega))
      refine ⟨i + 1, ⟨by omega, _, hE.sel [1, 6, 17, 18, 19] rfl, ?_⟩, by omega⟩
      rw [rowBs_succ (by omega)]; simpa [Nat.add_assoc] using hM
    · replace hE := hE'; clear hE'
      replace hb20 := of_decide_eq_false hb20
      obtain rfl : i = ps.length := by omega
      refine wp_cond_false (hE.eval rfl) ?_
      refine wp_exit ?_
      refine q_then_e ?_
      refine q_then_e ?_
      refine q_block_x ?_
      refine hK5 _ _ ?_
      refine wp_seq_k (fun K9 hK9 => ?_)
      refine wp_plain [true, true, true] rfl rfl ?_
      refine s_move hE rfl rfl ?_; clear hE a; intro a hE
      refine s_assign hE rfl rfl ?_; clear hE a; intro a hE
      refine s_assign hE rfl rfl ?_; clear hE a; intro a hE
      refine q_nil ?_
      replace hE : Env a 32 [(1, _), (4, _), (5, _), (6, _), (17, _), (18, _), (19, _), (20, _)] := hE.sel [1, 4, 5, 6, 17, 18, 19, 20] rfl
      refine hK9 _ _ ?_
      refine wp_ret ?_
      refine f_ret2 hE rfl rfl rfl ?_
      have hq : pRow dm ps = (rowBs dm ps ps.length, 0) := by unfold pRow; rw [if_neg (by omega)]
      rw [hq]; exact ⟨_, rfl, hM.pick [0] rfl⟩
theorem under_c (key : List UInt8) (w : World) (hk : key.length = 32) : Calls Tryd.prog 36 #[.agg (bv key).toArray] w fun e w' => ∃ bk, e = .returned (.func (.func 47) #[] #[.pointer (some ⟨bk, 0, none⟩)]) ∧ Mem w [] w' [blk bk [bv key] [32] 46] := by
  have hM := Mem.start0 w
  refine f_enter 4 Tryd.func36 rfl rfl rfl ?_
  intro a hE
  replace hE : Env a 4 [(0, _)] := hE
  refine wp_seq_k (fun K1 hK1 => ?_)
  refine wp_plain [false, true] rfl rfl ?_
  refine s_box (ss := [bv key]) [32] hE hM rfl (by simp [Value.cells]) (by simp [hk]) rfl ?_; clear hE a; intro a b1 w1 hE hM'
  clear hM; have hM := hM'; clear hM'
  refine s_assign hE rfl rfl ?_; clear hE a; intro a hE
  refine q_nil ?_
  replace hE : Env a 4 [(1, _), (2, _)] := hE.sel [1, 2] rfl
  refine hK1 _ _ ?_
  refine wp_seq_k (fun K2 hK2 => ?_)
  refine wp_plain [true, true] rfl rfl ?_
  refine s_makeFn hE rfl rfl ?_; clear hE a; intro a hE
  refine s_assign hE rfl rfl ?_; clear hE a; intro a hE
  refine q_nil ?_
  replace hE : Env a 4 [(2, _)] := hE.sel [2] rfl
  refine hK2 _ _ ?_
  refine wp_ret ?_
  refine f_ret1 hE rfl rfl ?_
  exact ⟨_, rfl, hM⟩
theorem dsub_c (bk : Nat) (key : List UInt8) (s : ByteArray) (w : World) (hG : (glb 0).holds w) (hB : (blk bk [bv key] [32] 46).holds w) (hk : key.length = 32) (hs : s.size ≤ 1000000) : Calls Tryd.prog 47 #[.string s, .pointer (some ⟨bk, 0, none⟩)] w fun e w' => e = .returned (.agg (bv (subW key s.data.toList)).toArray) ∧ Mem w [] w' [] := by
  have hM := Mem.startR2 (e := blkR bk [bv key] [32] 46) hB hG rfl rfl
  have hsz : s.data.toList.length = s.size := rfl
  refine f_enter 16 Tryd.func47 rfl rfl rfl ?_
  intro a hE
  replace hE : Env a 16 [(0, _), (1, _)] := hE
  refine wp_seq_k (fun K1 hK1 => ?_)
  refine wp_plain [false] rfl rfl ?_
  refine s_alloc [32] hE hM zero46 rfl rfl ?_; clear hE a; intro a b3 w1 hE hM'
  clear hM; have hM := hM'; clear hM'
  refine q_nil ?_
  refine hK1 _ _ ?_
  refine wp_seq_k (fun K2 hK2 => ?_)
  refine wp_plain [true, false, false, false, true, true, true, true, true] rfl rfl ?_
  refine s_move hE rfl rfl ?_; clear hE a; intro a hE
  refine s_ofStr hE rfl hM Tryd.underlying9 Tryd.underlying22 Tryd.underlying5 (len47 (by omega)) rfl ?_; clear hE a; intro a v8 w2 hE hM'; clear hM; have hM := hM'; clear hM'
  have h8 := own_one (hM.get 0 rfl)
  refine s_buildSlice (xs := [.tmp 8]) ([v8]) hE hM sl57 rfl rfl rfl (by intro v hv; rw [List.mem_singleton.1 hv, h8.1]; rfl) (by simp [h8.1]) rfl rfl rfl ?_; clear hE a; intro a v9 w3 hE hM'
  clear hM; have hM := hM'; clear hM'
  obtain ⟨cl, hl⟩ := own_rd (hM.get 0 rfl)
  obtain ⟨cb, hb8⟩ := own_rd (hM.get 1 rfl)
  refine s_call hE rfl Tryd.call31 ((by have h := brow_c 68 _ [s.data.toList] _ _ _ _ hl (rdv_cons (p := s.data.toList) hb8 (rdv_nil _)) (by simp [rowBytes, hsz]; omega); rw [rowL_ok] at h; exact h)) rfl ?_
  rintro e w4 ⟨vr, rfl, hN⟩
  refine ⟨_, rfl, trivial, ?_⟩; clear hE a; intro a hE
  replace hM : Mem _ _ w4 [_, _, _, _, _, _] := hM.call0 hN ⟨rfl, trivial⟩; clear hN
  refine s_move hE rfl rfl ?_; clear hE a; intro a hE
  refine s_extract hE rfl rfl rfl ?_; clear hE a; intro a hE
  refine s_extract hE rfl rfl rfl ?_; clear hE a; intro a hE
  refine s_assign hE rfl rfl ?_; clear hE a; intro a hE
  refine s_assign hE rfl rfl ?_; clear hE a; intro a hE
  refine q_nil ?_
  replace hE : Env a 16 [(1, _), (3, _), (4, _)] := hE.sel [1, 3, 4] rfl
  refine hK2 _ _ ?_
  refine wp_seq_k (fun K3 hK3 => ?_)
  refine wp_plain [true, true, false, false] rfl rfl ?_
  refine s_sliceArr (l := 0) (h := 32) (mx' := 32) hE rfl arr46 rfl rfl rfl (by simp) (by omega) (by omega) (by omega) rfl ?_; clear hE a; intro a hE
  replace hE := hE.cast 13 rfl (show _ = Value.slice (some ⟨bk, 0, none⟩) 32 32 from rfl)
  refine s_move hE rfl rfl ?_; clear hE a; intro a hE
  obtain ⟨cr, hr⟩ := own_rd (hM.get 0 rfl)
  refine s_call hE rfl Tryd.call24 (of_c _ _ key (rowL s.data.toList) _ _ _ (hM.get 5 rfl) (rd_of_arr (blkR_blk (hM.get 4 rfl)) hk) hr (by omega) (by rw [rowL_eq]; simp [hsz]; omega)) rfl ?_
  rintro e w5 ⟨rfl, hN⟩
  refine ⟨_, rfl, trivial, ?_⟩; clear hE a; intro a hE
  replace hM : Mem _ _ w5 [_, _, _, _, _, _] := hM.call0 hN trivial; clear hN
  replace hM : Mem _ _ w5 [_, _, _, _, _, _] := hM.pick [3, 0, 1, 2, 4, 5] rfl
  refine s_storeSeg 0 hE rfl rfl hM rfl sz46 (by simp) (bv_one _) rfl (by simp) rfl (by intro X h; cases h) ?_; intro w6 hM'; clear hM; have hM := hM'; clear hM'
  simp only [List.set_cons_zero, List.set_cons_succ] at hM
  refine q_nil ?_
  replace hE : Env a 16 [(3, _)] := hE.sel [3] rfl
  refine hK3 _ _ ?_
  refine wp_ret ?_
  refine f_ret1 hE rfl (res_cellN rfl (hM.get 0 rfl) row46 rfl) ?_
  exact ⟨rfl, hM.nil⟩
theorem sub_c (key : List UInt8) (s : ByteArray) (w : World) (hG : (glb 0).holds w) (hk : key.length = 32) (hs : s.size ≤ 1000000) : Calls Tryd.prog 28 #[.agg (bv key).toArray, .string s] w fun e w' => e = .returned (.agg (bv (subW key s.data.toList)).toArray) ∧ Mem w [] w' [] := by
  have hM := Mem.startR1 hG rfl
  refine f_enter 9 Tryd.func28 rfl rfl rfl ?_
  intro a hE
  replace hE : Env a 9 [(0, _), (1, _)] := hE
  refine wp_seq_k (fun K1 hK1 => ?_)
  refine wp_plain [false, false] rfl rfl ?_
  refine s_box (ss := [bv key]) [32] hE hM rfl (by simp [Value.cells]) (by simp [hk]) rfl ?_; clear hE a; intro a b2 w1 hE hM'
  clear hM; have hM := hM'; clear hM'
  refine s_alloc [32] hE hM zero46 rfl rfl ?_; clear hE a; intro a b4 w2 hE hM'
  clear hM; have hM := hM'; clear hM'
  refine q_nil ?_
  replace hE : Env a 9 [(1, _), (2, _), (4, _)] := hE.sel [1, 2, 4] rfl
  refine hK1 _ _ ?_
  refine wp_seq_k (fun K2 hK2 => ?_)
  refine wp_plain [true, false, true, false, false] rfl rfl ?_
  refine s_loadN hE rfl (hM.get 1 rfl) row46 rfl (by intro X h; cases h) rfl ?_; clear hE a; intro a hE
  refine s_call hE rfl Tryd.call36 (under_c key _ hk) rfl ?_
  rintro e w3 ⟨bk, rfl, hN⟩
  refine ⟨_, rfl, trivial, ?_⟩; clear hE a; intro a hE
  replace hM : Mem _ _ w3 [_, _, _, _] := hM.call0 hN ⟨rfl, trivial⟩; clear hN
  refine s_move hE rfl rfl ?_; clear hE a; intro a hE
  refine s_calldynL hE rfl rfl Tryd.call47 (dsub_c bk key s _ (hM.get 3 rfl) (hM.get 0 rfl) hk hs) rfl ?_
  rintro e w4 ⟨rfl, hN⟩
  refine ⟨_, rfl, trivial, ?_⟩; clear hE a; intro a hE
  replace hM : Mem _ _ w4 [_, _, _, _] := hM.call0 hN trivial; clear hN
  replace hM : Mem _ _ w4 [_, _, _, _] := hM.pick [1, 0, 2, 3] rfl
  refine s_storeSeg 0 hE rfl rfl hM rfl sz46 (by simp) (bv_one _) rfl (by simp) rfl (by intro X h; cases h) ?_; intro w5 hM'; clear hM; have hM := hM'; clear hM'
  simp only [List.set_cons_zero, List.set_cons_succ] at hM
  refine q_nil ?_
  replace hE : Env a 9 [(4, _)] := hE.sel [4] rfl
  refine hK2 _ _ ?_
  refine wp_ret ?_
  refine f_ret1 hE rfl (res_cellN rfl (hM.get 0 rfl) row46 rfl) ?_
  exact ⟨rfl, hM.nil⟩
theorem setof_c (key : List UInt8) (w : World) (hG : (glb 0).holds w) (hk : key.length = 32) : Calls Tryd.prog 25 #[.agg (bv key).toArray] w fun e w' => e = .returned (.agg ([bv (subW key [116, 114, 101, 101]), bv (subW key [114, 111, 111, 116]), bv (subW key [104, 101, 97, 100])]).flatten.toArray) ∧ Mem w [] w' [] := by
  have hM := Mem.startR1 hG rfl
  refine f_enter 13 Tryd.func25 rfl rfl rfl ?_
  intro a hE
  replace hE : Env a 13 [(0, _)] := hE
  refine wp_seq_k (fun K1 hK1 => ?_)
  refine wp_plain [false, false] rfl rfl ?_
  refine s_box (ss := [bv key]) [32] hE hM rfl (by simp [Value.cells]) (by simp [hk]) rfl ?_; clear hE a; intro a b1 w1 hE hM'
  clear hM; have hM := hM'; clear hM'
  refine s_alloc [32, 32, 32] hE hM zero48 rfl rfl ?_; clear hE a; intro a b2 w2 hE hM'
  clear hM; have hM := hM'; clear hM'
  refine q_nil ?_
  replace hE : Env a 13 [(1, _), (2, _)] := hE.sel [1, 2] rfl
  refine hK1 _ _ ?_
  refine wp_seq_k (fun K2 hK2 => ?_)
  refine wp_plain [true, false, true] rfl rfl ?_
  refine s_loadN hE rfl (hM.get 1 rfl) row46 rfl (by intro X h; cases h) rfl ?_; clear hE a; intro a hE
  refine s_call hE rfl Tryd.call36 (under_c key _ hk) rfl ?_
  rintro e w3 ⟨bk, rfl, hN⟩
  refine ⟨_, rfl, trivial, ?_⟩; clear hE a; intro a hE
  replace hM : Mem _ _ w3 [_, _, _, _] := hM.call0 hN ⟨rfl, trivial⟩; clear hN
  refine s_assign hE rfl rfl ?_; clear hE a; intro a hE
  refine q_nil ?_
  replace hE : Env a 13 [(2, _), (3, _)] := hE.sel [2, 3] rfl
  refine hK2 _ _ ?_
  refine wp_seq_k (fun K3 hK3 => ?_)
  refine wp_plain [true, false, true, false, true, false, true, false] rfl rfl ?_
  refine s_move hE rfl rfl ?_; clear hE a; intro a hE
  refine s_calldynL hE rfl rfl Tryd.call47 (dsub_c bk key (tx [116, 114, 101, 101]) _ (hM.get 3 rfl) (hM.get 0 rfl) hk (by decide)) rfl ?_
  rintro e w4 ⟨rfl, hN⟩
  refine ⟨_, rfl, trivial, ?_⟩; clear hE a; intro a hE
  replace hM : Mem _ _ w4 [_, _, _, _] := hM.call0 hN trivial; clear hN
  refine s_move hE rfl rfl ?_; clear hE a; intro a hE
  refine s_calldynL hE rfl rfl Tryd.call47 (dsub_c bk key (tx [114, 111, 111, 116]) _ (hM.get 3 rfl) (hM.get 0 rfl) hk (by decide)) rfl ?_
  rintro e w5 ⟨rfl, hN⟩
  refine ⟨_, rfl, trivial, ?_⟩; clear hE a; intro a hE
  replace hM : Mem _ _ w5 [_, _, _, _] := hM.call0 hN trivial; clear hN
  refine s_move hE rfl rfl ?_; clear hE a; intro a hE
  refine s_calldynL hE rfl rfl Tryd.call47 (dsub_c bk key (tx [104, 101, 97, 100]) _ (hM.get 3 rfl) (hM.get 0 rfl) hk (by decide)) rfl ?_
  rintro e w6 ⟨rfl, hN⟩
  refine ⟨_, rfl, trivial, ?_⟩; clear hE a; intro a hE
  replace hM : Mem _ _ w6 [_, _, _, _] := hM.call0 hN trivial; clear hN
  refine s_buildS [bv (subW key [116, 114, 101, 101]), bv (subW key [114, 111, 111, 116]), bv (subW key [104, 101, 97, 100])] hE rfl zero48 rfl fpl48 ⟨rfl, by simp, rfl, by simp, rfl, by simp, trivial⟩ rfl ?_; clear hE a; intro a hE
  replace hM : Mem _ _ w6 [_, _, _, _] := hM.pick [1, 0, 2, 3] rfl
  refine s_storeSegs 0 3 (vss := [bv (subW key [116, 114, 101, 101]), bv (subW key [114, 111, 111, 116]), bv (subW key [104, 101, 97, 100])]) hE rfl rfl hM rfl sz48 (by simp) (by decide) rfl (by intro v hv; simp at hv; rcases hv with hv | hv | hv <;> exact bv_one _ v hv) rfl (by intro X h; cases h) ?_; intro w7 hM'; clear hM; have hM := hM'; clear hM'
  simp only [List.take_zero, List.take_succ_cons, List.drop_zero, List.drop_succ_cons, List.take_nil, List.drop_nil, List.nil_append, List.append_nil, List.cons_append] at hM
  refine q_nil ?_
  replace hE : Env a 13 [(2, _)] := hE.sel [2] rfl
  refine hK3 _ _ ?_
  refine wp_ret ?_
  refine f_ret1 hE rfl (res_cellN rfl (hM.get 0 rfl) row48 rfl) ?_
  exact ⟨by simp [subW, tx], hM.nil⟩
theorem pair_c (key : List UInt8) (w : World) (hG : (glb 0).holds w) (hk : key.length = 32) : Calls Tryd.prog 26 #[.agg (bv key).toArray] w fun e w' => e = .returned (.tuple #[.agg (bv (subW key [100, 97, 116, 97])).toArray, .agg (bv (subW key [116, 119, 101, 97, 107])).toArray]) ∧ Mem w [] w' [] := by
  have hM := Mem.startR1 hG rfl
  refine f_enter 11 Tryd.func26 rfl rfl rfl ?_
  intro a hE
  replace hE : Env a 11 [(0, _)] := hE
  refine wp_seq_k (fun K1 hK1 => ?_)
  refine wp_plain [false, false, false] rfl rfl ?_
  refine s_box (ss := [bv key]) [32] hE hM rfl (by simp [Value.cells]) (by simp [hk]) rfl ?_; clear hE a; intro a b1 w1 hE hM'
  clear hM; have hM := hM'; clear hM'
  refine s_alloc [32] hE hM zero46 rfl rfl ?_; clear hE a; intro a b2 w2 hE hM'
  clear hM; have hM := hM'; clear hM'
  refine s_alloc [32] hE hM zero46 rfl rfl ?_; clear hE a; intro a b3 w3 hE hM'
  clear hM; have hM := hM'; clear hM'
  refine q_nil ?_
  replace hE : Env a 11 [(1, _), (2, _), (3, _)] := hE.sel [1, 2, 3] rfl
  refine hK1 _ _ ?_
  refine wp_seq_k (fun K2 hK2 => ?_)
  refine wp_plain [true, false, true] rfl rfl ?_
  refine s_loadN hE rfl (hM.get 2 rfl) row46 rfl (by intro X h; cases h) rfl ?_; clear hE a; intro a hE
  refine s_call hE rfl Tryd.call36 (under_c key _ hk) rfl ?_
  rintro e w4 ⟨bk, rfl, hN⟩
  refine ⟨_, rfl, trivial, ?_⟩; clear hE a; intro a hE
  replace hM : Mem _ _ w4 [_, _, _, _, _] := hM.call0 hN ⟨rfl, trivial⟩; clear hN
  refine s_assign hE rfl rfl ?_; clear hE a; intro a hE
  refine q_nil ?_
  replace hE : Env a 11 [(2, _), (3, _), (4, _)] := hE.sel [2, 3, 4] rfl
  refine hK2 _ _ ?_
  refine wp_seq_k (fun K3 hK3 => ?_)
  refine wp_plain [true, false, true, false, false, false] rfl rfl ?_
  refine s_move hE rfl rfl ?_; clear hE a; intro a hE
  refine s_calldynL hE rfl rfl Tryd.call47 (dsub_c bk key (tx [100, 97, 116, 97]) _ (hM.get 4 rfl) (hM.get 0 rfl) hk (by decide)) rfl ?_
  rintro e w5 ⟨rfl, hN⟩
  refine ⟨_, rfl, trivial, ?_⟩; clear hE a; intro a hE
  replace hM : Mem _ _ w5 [_, _, _, _, _] := hM.call0 hN trivial; clear hN
  refine s_move hE rfl rfl ?_; clear hE a; intro a hE
  refine s_calldynL hE rfl rfl Tryd.call47 (dsub_c bk key (tx [116, 119, 101, 97, 107]) _ (hM.get 4 rfl) (hM.get 0 rfl) hk (by decide)) rfl ?_
  rintro e w6 ⟨rfl, hN⟩
  refine ⟨_, rfl, trivial, ?_⟩; clear hE a; intro a hE
  replace hM : Mem _ _ w6 [_, _, _, _, _] := hM.call0 hN trivial; clear hN
  replace hM : Mem _ _ w6 [_, _, _, _, _] := hM.pick [2, 0, 1, 3, 4] rfl
  refine s_storeSeg 0 hE rfl rfl hM rfl sz46 (by simp) (bv_one _) rfl (by simp) rfl (by intro X h; cases h) ?_; intro w7 hM'; clear hM; have hM := hM'; clear hM'
  simp only [List.set_cons_zero, List.set_cons_succ] at hM
  replace hM : Mem _ _ w7 [_, _, _, _, _] := hM.pick [2, 0, 1, 3, 4] rfl
  refine s_storeSeg 0 hE rfl rfl hM rfl sz46 (by simp) (bv_one _) rfl (by simp) rfl (by intro X h; cases h) ?_; intro w8 hM'; clear hM; have hM := hM'; clear hM'
  simp only [List.set_cons_zero, List.set_cons_succ] at hM
  refine q_nil ?_
  replace hE : Env a 11 [(2, _), (3, _)] := hE.sel [2, 3] rfl
  refine hK3 _ _ ?_
  refine wp_ret ?_
  refine f_ret2 hE rfl (res_cellN rfl (hM.get 1 rfl) row46 rfl) (res_cellN rfl (hM.get 0 rfl) row46 rfl) ?_
  exact ⟨rfl, hM.nil⟩
theorem knownW : hmacW [1, 0, 0, 0, 0, 0, 0, 0, 0, 0, 0, 0, 0, 0, 0, 0, 0, 0, 0, 0, 0, 0, 0, 0, 0, 0, 0, 0, 0, 0, 0, 0] [68, 1, 0, 0, 0, 0] = [230, 76, 161, 49, 245, 199, 218, 245, 135, 15, 211, 130, 29, 152, 217, 185, 108, 182, 49, 184, 111, 157, 207, 74, 110, 215, 228, 218, 222, 46, 102, 199] := by decide +kernel
theorem knownR : rowL [] = [68, 1, 0, 0, 0, 0] := by decide +kernel
theorem awake9_c (w : World) (hG : (glb 0).holds w) : Calls Tryd.prog 27 #[] w fun e w' => e = .returned (.bool true) ∧ Mem w [] w' [] := by
  have hM := Mem.startR1 hG rfl
  refine f_enter 17 Tryd.func27 rfl rfl rfl ?_
  intro a hE
  replace hE : Env a 17 [] := hE
  refine wp_seq_k (fun K1 hK1 => ?_)
  refine wp_plain [true] rfl rfl ?_
  refine s_assign hE rfl rfl ?_; clear hE a; intro a hE
  refine q_nil ?_
  refine hK1 _ _ ?_
  refine wp_seq_k (fun K2 hK2 => ?_)
  refine wp_plain [true, false, false] rfl rfl ?_
  refine s_build (r := .agg (bv [1, 0, 0, 0, 0, 0, 0, 0, 0, 0, 0, 0, 0, 0, 0, 0, 0, 0, 0, 0, 0, 0, 0, 0, 0, 0, 0, 0, 0, 0, 0, 0]).toArray) _ hE rfl (fun w => by kernel_rfl) rfl ?_; clear hE a; intro a hE
  refine s_alloc [32] hE hM zero46 rfl rfl ?_; clear hE a; intro a b1 w1 hE hM'
  clear hM; have hM := hM'; clear hM'
  refine s_storeSeg 0 hE rfl rfl hM rfl sz46 (by decide) (bv_one _) rfl (by decide) rfl (by intro X h; cases h) ?_; intro w2 hM'; clear hM; have hM := hM'; clear hM'
  simp only [List.set_cons_zero, List.set_cons_succ] at hM
  refine q_nil ?_
  replace hE : Env a 17 [(0, _), (1, _)] := hE.sel [0, 1] rfl
  refine hK2 _ _ ?_
  refine wp_seq_k (fun K3 hK3 => ?_)
  refine wp_plain [true, false, false, false] rfl rfl ?_
  refine s_loadN hE rfl (hM.get 0 rfl) row46 rfl (by intro X h; cases h) rfl ?_; clear hE a; intro a hE
  refine s_call hE rfl Tryd.call28 ((by have h := sub_c [1, 0, 0, 0, 0, 0, 0, 0, 0, 0, 0, 0, 0, 0, 0, 0, 0, 0, 0, 0, 0, 0, 0, 0, 0, 0, 0, 0, 0, 0, 0, 0] .empty w2 (hM.get 1 rfl) rfl (by decide); rw [show subW [1, 0, 0, 0, 0, 0, 0, 0, 0, 0, 0, 0, 0, 0, 0, 0, 0, 0, 0, 0, 0, 0, 0, 0, 0, 0, 0, 0, 0, 0, 0, 0] (ByteArray.empty).data.toList = [230, 76, 161, 49, 245, 199, 218, 245, 135, 15, 211, 130, 29, 152, 217, 185, 108, 182, 49, 184, 111, 157, 207, 74, 110, 215, 228, 218, 222, 46, 102, 199] from by rw [subW, show (ByteArray.empty).data.toList = [] from rfl, knownR, knownW]] at h; exact h)) rfl ?_
  rintro e w3 ⟨rfl, hN⟩
  refine ⟨_, rfl, trivial, ?_⟩; clear hE a; intro a hE
  replace hM : Mem _ _ w3 [_, _] := hM.call0 hN trivial; clear hN
  refine s_alloc [32] hE hM zero46 rfl rfl ?_; clear hE a; intro a b2 w4 hE hM'
  clear hM; have hM := hM'; clear hM'
  refine s_storeSeg 0 hE rfl rfl hM rfl sz46 (by decide) (bv_one _) rfl (by decide) rfl (by intro X h; cases h) ?_; intro w5 hM'; clear hM; have hM := hM'; clear hM'
  simp only [List.set_cons_zero, List.set_cons_succ] at hM
  refine q_nil ?_
  replace hE : Env a 17 [(0, _), (1, _), (2, _)] := hE.sel [0, 1, 2] rfl
  refine hK3 _ _ ?_
  refine wp_seq_k (fun K4 hK4 => ?_)
  refine wp_drawnM hM (by kernel_rfl) (fun b => b ≠ b1 ∧ b ≠ b2) [(0, true), (1, true), (2, true), (3, true), (4, true), (5, true), (6, false), (7, false), (8, false), (9, true), (10, true), (11, true)] [(6, [(7, 6), (8, 7), (9, 8), (10, 9), (11, 6)]), (7, [(8, 7), (9, 8), (10, 9), (11, 7)]), (8, [(9, 8), (10, 9), (11, 8)])] (by kernel_rfl) rfl ?_
  intro w6 hM' hww6; clear hM; have hM := hM'; clear hM'
  refine s_loadN hE rfl (hM.get 0 rfl) row46 rfl (by intro X h; cases h; simp) rfl ?_; clear hE a; intro a hE
  refine s_build (r := .agg (bv (List.replicate 32 0)).toArray) _ hE rfl (fun w => by kernel_rfl) rfl ?_; clear hE a; intro a hE
  refine s_bin hE rfl rfl (eqa46 rfl rfl).2 rfl ?_; clear hE a; intro a hE
  refine s_move hE rfl rfl ?_; clear hE a; intro a hE
  replace hE := hE.cast 9 rfl (show _ = Value.bool true from (congrArg Value.bool (by first | rfl | decide)))
  refine g_yes hE rfl rfl ?_
  refine s_loadN hE rfl (hM.get 0 rfl) row46 rfl (by intro X h; cases h; simp) rfl ?_; clear hE a; intro a hE
  refine g_yes hE rfl rfl ?_
  refine s_sliceArr (l := 0) (h := 32) (mx' := 32) hE rfl arr46 rfl rfl rfl (by simp) (by omega) (by omega) (by omega) rfl ?_; clear hE a; intro a hE
  replace hE := hE.cast 11 rfl (show _ = Value.slice (some ⟨b1, 0, none⟩) 32 32 from rfl)
  refine g_yes hE rfl rfl ?_
  refine s_buildSlice (xs := [.const (.int .u8 68), .const (.int .u8 1), .const (.int .u8 0), .const (.int .u8 0), .const (.int .u8 0), .const (.int .u8 0)]) (bv [68, 1, 0, 0, 0, 0]) hE hM sl22 rfl rfl rfl (by intro v hv; obtain ⟨x, _, rfl⟩ := List.mem_map.1 (show v ∈ bv [68, 1, 0, 0, 0, 0] from hv); rfl) rfl rfl rfl rfl ?_; clear hE a; intro a v12 w7 hE hM'
  clear hM; have hM := hM'; clear hM'
  refine g_yes hE rfl rfl ?_
  refine s_convSame hE rfl hM Tryd.underlying22 Tryd.underlying5 (by omega) (by intro X h; cases h; intro b hb; exact ⟨fun e => ((apart_of_get hM.apart (i := 0) (j := 2) rfl rfl (by decide)).1 b hb).1 (by rw [e]; exact .head _), fun e => ((apart_of_get hM.apart (i := 0) (j := 1) rfl rfl (by decide)).1 b hb).1 (by rw [e]; exact .head _)⟩) rfl ?_; clear hE a; intro a w8 hE hM'; clear hM; have hM := hM'; clear hM'
  refine g_yes hE rfl rfl ?_
  obtain ⟨cr, hr⟩ := own_rd (hM.get 0 rfl)
  refine s_call hE rfl Tryd.call24 ((by have h := of_c _ _ [1, 0, 0, 0, 0, 0, 0, 0, 0, 0, 0, 0, 0, 0, 0, 0, 0, 0, 0, 0, 0, 0, 0, 0, 0, 0, 0, 0, 0, 0, 0, 0] [68, 1, 0, 0, 0, 0] _ _ w8 (hM.get 3 rfl) (rd_of_arr (hM.get 2 rfl) rfl) hr (by decide) (by decide); rw [knownW] at h; exact h)) rfl ?_
  rintro e w9 ⟨rfl, hN⟩
  refine ⟨_, rfl, hN.sta0 _, ?_⟩; clear hE a; intro a hE
  replace hM : Mem _ _ w9 [_, _, _, _] := hM.call0 hN trivial; clear hN
  refine g_yes hE rfl rfl ?_
  refine s_bin hE rfl rfl (eqa46 rfl rfl).1 rfl ?_; clear hE a; intro a hE
  refine s_pickt hE rfl rfl rfl ?_; clear hE a; intro a hE
  refine s_assign hE rfl rfl ?_; clear hE a; intro a hE
  refine q_nil ?_
  replace hE : Env a 17 [(0, _), (1, _), (2, _)] := hE.sel [0, 1, 2] rfl
  refine hK4 _ _ ?_
  refine wp_ret ?_
  refine f_ret1 hE rfl rfl ?_
  exact ⟨by first | rfl | simp, hM.nil⟩
end Go.Proofs.YthagednepehliaaDoor
