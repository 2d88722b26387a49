/- Walks of functions of the given program that the claim reaches. -/
import Derived.Test.YtbjdbiljkkfklaaDoorLq
set_option linter.unusedSimpArgs false
set_option linter.unusedVariables false
namespace Go.Proofs.YtbjdbiljkkfklaaDoor
open Go Go.Kx Go.RowKit
theorem eqa35 : ∀ {a b : List UInt8}, a.length = 32 → b.length = 32 → Bin Tryd.prog .eql 35 (.agg (bv a).toArray) (.agg (bv b).toArray) (.bool (decide (a = b))) ∧ Bin Tryd.prog .neq 35 (.agg (bv a).toArray) (.agg (bv b).toArray) (.bool (!decide (a = b))) := fun ha hb => bins_arr8 Tryd.underlying35 (by kernel_rfl) Tryd.underlying5 (by kernel_rfl) (by kernel_rfl) ha hb
theorem more_bad (ns : List UInt32) (size : Nat) (v : Value) (bs : List UInt8) (c : Nat) (w : World) (hr_bs : (rd v 1 bs.length c (bv bs)).holds w) (hn8 : ns.length = 8) (hb : ¬ bs.length % 64 = 0) : Calls Tryd.prog 22 #[.agg (prefL ns size).toArray, v] w fun e w' => e = .returned (.tuple #[.agg zeroP.toArray, .int .i64 2]) ∧ Mem w [] w' [] := by
  have hM : Mem w [] w [rd v 1 bs.length c (bv bs)] := Mem.startR w (fun g hg => by
    simp only [List.mem_cons, List.not_mem_nil, or_false] at hg
    rcases hg with rfl
    · exact ⟨hr_bs, rfl⟩)
  refine f_enter 27 Tryd.func22 rfl rfl rfl ?_
  intro a hE
  replace hE : Env a 27 [(0, _), (1, _)] := hE
  refine wp_seq_k (fun K1 hK1 => ?_)
  refine wp_plain [false, false, true] rfl rfl ?_
  refine s_box (ss := [wd ns, [.int .i64 ((size : Nat) : Int)], [.bool true]]) [8, 1, 1] hE hM rfl rfl (by simp [*]) rfl ?_; clear hE a; intro a b2 w1 hE hM'
  clear hM; have hM := hM'; clear hM'
  refine s_alloc [8, 1, 1] hE hM zero30 rfl rfl ?_; clear hE a; intro a b4 w2 hE hM'
  clear hM; have hM := hM'; clear hM'
  replace hM := hM.resplit (ss' := [zeroP]) (ns' := [10]) (by simp [zeroP]) (by simp [zeroP])
  refine s_assign hE rfl rfl ?_; clear hE a; intro a hE
  refine q_nil ?_
  replace hE : Env a 27 [(1, _), (2, _), (4, _), (5, _)] := hE.sel [1, 2, 4, 5] rfl
  refine hK1 _ _ ?_
  refine wp_seq_k (fun K2 hK2 => ?_)
  refine wp_block ?_
  refine wp_seq_k (fun K3 hK3 => ?_)
  refine wp_plain [true, true, true, true] rfl rfl ?_
  refine s_fieldAddr hE rfl fo30_2 rfl ?_; clear hE a; intro a hE
  refine s_load1 hE rfl (hM.get 1 rfl) rfl one4 (by intro X h; cases h) rfl ?_; clear hE a; intro a hE
  refine s_not hE rfl rfl ?_; clear hE a; intro a hE
  refine s_assign hE rfl rfl ?_; clear hE a; intro a hE
  refine q_nil ?_
  replace hE : Env a 27 [(1, _), (2, _), (4, _), (5, _), (6, _)] := hE.sel [1, 2, 4, 5, 6] rfl
  refine hK3 _ _ ?_
  replace hE := hE.cast 6 rfl (show _ = Value.bool false from (congrArg Value.bool rfl))
  refine wp_cond_false (hE.eval rfl) ?_
  refine wp_seq_k (fun K4 hK4 => ?_)
  refine wp_plain [true, true, true, true, true] rfl rfl ?_
  refine s_move hE rfl rfl ?_; clear hE a; intro a hE
  refine s_len hE rfl Tryd.underlying23 (rd_slice (hM.get 2 rfl)) rfl ?_; clear hE a; intro a hE
  refine s_bin hE rfl rfl (bin_rem_nat (m := bs.length) (s := 64) (by decide)) rfl ?_; clear hE a; intro a hE
  refine s_bin hE rfl rfl bin_neq rfl ?_; clear hE a; intro a hE
  refine s_assign hE rfl rfl ?_; clear hE a; intro a hE
  refine q_nil ?_
  replace hE : Env a 27 [(1, _), (2, _), (4, _), (5, _), (6, _), (11, _)] := hE.sel [1, 2, 4, 5, 6, 11] rfl
  refine hK4 _ _ ?_
  replace hE := hE.cast 11 rfl (show _ = Value.bool true from (congrArg Value.bool (by simp; omega)))
  refine wp_cond_true (hE.eval rfl) ?_
  refine wp_seq_k (fun K5 hK5 => ?_)
  refine wp_plain [true, false, true] rfl rfl ?_
  refine s_build (r := .agg zeroP.toArray) _ hE rfl (fun w => by kernel_rfl) rfl ?_; clear hE a; intro a hE
  refine s_storeSeg 0 (vs := zeroP) hE rfl rfl hM rfl sz30 (by simp [zeroP]) zeroP_one rfl (by simp [zeroP]) rfl (by intro X h; cases h) ?_; intro w3 hM'; clear hM; have hM := hM'; clear hM'
  simp only [List.set_cons_zero] at hM
  refine s_assign hE rfl rfl ?_; clear hE a; intro a hE
  refine q_nil ?_
  replace hE : Env a 27 [(1, _), (2, _), (4, _), (5, _), (6, _), (11, _)] := hE.sel [1, 2, 4, 5, 6, 11] rfl
  refine hK5 _ _ ?_
  refine wp_ret ?_
  refine q_block_r ?_
  refine q_then_r ?_
  refine f_ret2 hE rfl (res_cellN rfl (hM.get 0 rfl) row30 rfl) rfl ?_
  exact ⟨(by first | rfl | (simp; done)), hM.pick [] rfl⟩
theorem more_no (v : Value) (bs : List UInt8) (c : Nat) (w : World) (hr_bs : (rd v 1 bs.length c (bv bs)).holds w) : Calls Tryd.prog 22 #[.agg zeroP.toArray, v] w fun e w' => e = .returned (.tuple #[.agg zeroP.toArray, .int .i64 1]) ∧ Mem w [] w' [] := by
  have hM : Mem w [] w [rd v 1 bs.length c (bv bs)] := Mem.startR w (fun g hg => by
    simp only [List.mem_cons, List.not_mem_nil, or_false] at hg
    rcases hg with rfl
    · exact ⟨hr_bs, rfl⟩)
  refine f_enter 27 Tryd.func22 rfl rfl rfl ?_
  intro a hE
  replace hE : Env a 27 [(0, _), (1, _)] := hE
  refine wp_seq_k (fun K1 hK1 => ?_)
  refine wp_plain [false, false, true] rfl rfl ?_
  refine s_box (ss := [wd (List.replicate 8 0), [.int .i64 0], [.bool false]]) [8, 1, 1] hE hM rfl rfl (by simp [*]) rfl ?_; clear hE a; intro a b2 w1 hE hM'
  clear hM; have hM := hM'; clear hM'
  refine s_alloc [8, 1, 1] hE hM zero30 rfl rfl ?_; clear hE a; intro a b4 w2 hE hM'
  clear hM; have hM := hM'; clear hM'
  replace hM := hM.resplit (ss' := [zeroP]) (ns' := [10]) (by simp [zeroP]) (by simp [zeroP])
  refine s_assign hE rfl rfl ?_; clear hE a; intro a hE
  refine q_nil ?_
  replace hE : Env a 27 [(1, _), (2, _), (4, _), (5, _)] := hE.sel [1, 2, 4, 5] rfl
  refine hK1 _ _ ?_
  refine wp_seq_k (fun K2 hK2 => ?_)
  refine wp_block ?_
  refine wp_seq_k (fun K3 hK3 => ?_)
  refine wp_plain [true, true, true, true] rfl rfl ?_
  refine s_fieldAddr hE rfl fo30_2 rfl ?_; clear hE a; intro a hE
  refine s_load1 hE rfl (hM.get 1 rfl) rfl one4 (by intro X h; cases h) rfl ?_; clear hE a; intro a hE
  refine s_not hE rfl rfl ?_; clear hE a; intro a hE
  refine s_assign hE rfl rfl ?_; clear hE a; intro a hE
  refine q_nil ?_
  replace hE : Env a 27 [(1, _), (2, _), (4, _), (5, _), (6, _)] := hE.sel [1, 2, 4, 5, 6] rfl
  refine hK3 _ _ ?_
  replace hE := hE.cast 6 rfl (show _ = Value.bool true from (congrArg Value.bool rfl))
  refine wp_cond_true (hE.eval rfl) ?_
  refine wp_seq_k (fun K4 hK4 => ?_)
  refine wp_plain [true, false, true] rfl rfl ?_
  refine s_build (r := .agg zeroP.toArray) _ hE rfl (fun w => by kernel_rfl) rfl ?_; clear hE a; intro a hE
  refine s_storeSeg 0 (vs := zeroP) hE rfl rfl hM rfl sz30 (by simp [zeroP]) zeroP_one rfl (by simp [zeroP]) rfl (by intro X h; cases h) ?_; intro w3 hM'; clear hM; have hM := hM'; clear hM'
  simp only [List.set_cons_zero] at hM
  refine s_assign hE rfl rfl ?_; clear hE a; intro a hE
  refine q_nil ?_
  replace hE : Env a 27 [(1, _), (2, _), (4, _), (5, _), (6, _)] := hE.sel [1, 2, 4, 5, 6] rfl
  refine hK4 _ _ ?_
  refine wp_ret ?_
  refine q_block_r ?_
  refine q_then_r ?_
  refine f_ret2 hE rfl (res_cellN rfl (hM.get 0 rfl) row30 rfl) rfl ?_
  exact ⟨(by first | rfl | (simp; done)), hM.pick [] rfl⟩
theorem psum_no (v : Value) (bs : List UInt8) (c : Nat) (w : World) (hr_bs : (rd v 1 bs.length c (bv bs)).holds w) : Calls Tryd.prog 19 #[.agg zeroP.toArray, v] w fun e w' => e = .returned (.agg (bv (List.replicate 32 (0 : UInt8))).toArray) ∧ Mem w [] w' [] := by
  have hM : Mem w [] w [rd v 1 bs.length c (bv bs)] := Mem.startR w (fun g hg => by
    simp only [List.mem_cons, List.not_mem_nil, or_false] at hg
    rcases hg with rfl
    · exact ⟨hr_bs, rfl⟩)
  refine f_enter 55 Tryd.func19 rfl rfl rfl ?_
  intro a hE
  replace hE : Env a 55 [(0, _), (1, _)] := hE
  refine wp_seq_k (fun K1 hK1 => ?_)
  refine wp_plain [false, false] rfl rfl ?_
  refine s_box (ss := [wd (List.replicate 8 0), [.int .i64 0], [.bool false]]) [8, 1, 1] hE hM rfl rfl (by simp [*]) rfl ?_; clear hE a; intro a b2 w1 hE hM'
  clear hM; have hM := hM'; clear hM'
  refine s_alloc [32] hE hM zero35 rfl rfl ?_; clear hE a; intro a b4 w2 hE hM'
  clear hM; have hM := hM'; clear hM'
  refine q_nil ?_
  replace hE : Env a 55 [(1, _), (2, _), (4, _)] := hE.sel [1, 2, 4] rfl
  refine hK1 _ _ ?_
  refine wp_seq_k (fun K2 hK2 => ?_)
  refine wp_seq_k (fun K3 hK3 => ?_)
  refine wp_plain [true, true, true] rfl rfl ?_
  refine s_fieldAddr hE rfl fo30_2 rfl ?_; clear hE a; intro a hE
  refine s_load1 hE rfl (hM.get 1 rfl) rfl one4 (by intro X h; cases h) rfl ?_; clear hE a; intro a hE
  refine s_not hE rfl rfl ?_; clear hE a; intro a hE
  refine q_nil ?_
  replace hE : Env a 55 [(1, _), (2, _), (4, _), (11, _)] := hE.sel [1, 2, 4, 11] rfl
  refine hK3 _ _ ?_
  replace hE := hE.cast 11 rfl (show _ = Value.bool true from (congrArg Value.bool rfl))
  refine wp_cond_true (hE.eval rfl) ?_
  refine wp_seq_k (fun K4 hK4 => ?_)
  refine wp_plain [true, false] rfl rfl ?_
  refine s_loadN hE rfl (hM.get 0 rfl) row35 rfl (by intro X h; cases h) rfl ?_; clear hE a; intro a hE
  refine s_storeSeg 0 hE rfl rfl hM rfl sz35 ((bv_length _).trans (by first | (simp; done) | (simp [*]; done) | (simp; omega))) (bv_one _) rfl ((bv_length _).trans (by first | (simp; done) | (simp [*]; done) | (simp; omega))) rfl (by intro X h; cases h) ?_; intro w3 hM'; clear hM; have hM := hM'; clear hM'
  simp only [List.set_cons_zero, List.set_cons_succ] at hM
  refine q_nil ?_
  replace hE : Env a 55 [(1, _), (2, _), (4, _), (11, _)] := hE.sel [1, 2, 4, 11] rfl
  refine hK4 _ _ ?_
  refine wp_ret ?_
  refine q_then_r ?_
  refine f_ret1 hE rfl (res_cellN rfl (hM.get 0 rfl) row35 rfl) ?_
  exact ⟨(by first | rfl | (simp; done)), hM.pick [] rfl⟩
theorem psize_yes (ns : List UInt32) (size : Nat) (w : World) (hn8 : ns.length = 8) : Calls Tryd.prog 23 #[.agg (prefL ns size).toArray] w fun e w' => e = .returned (.int .i64 ((size : Nat) : Int)) ∧ Mem w [] w' [] := by
  have hM := Mem.start0 w
  refine f_enter 5 Tryd.func23 rfl rfl rfl ?_
  intro a hE
  replace hE : Env a 5 [(0, _)] := hE
  refine wp_seq_k (fun K1 hK1 => ?_)
  refine wp_plain [false, true] rfl rfl ?_
  refine s_box (ss := [wd ns, [.int .i64 ((size : Nat) : Int)], [.bool true]]) [8, 1, 1] hE hM rfl rfl (by simp [*]) rfl ?_; clear hE a; intro a b1 w1 hE hM'
  clear hM; have hM := hM'; clear hM'
  refine s_assign hE rfl rfl ?_; clear hE a; intro a hE
  refine q_nil ?_
  replace hE : Env a 5 [(1, _), (2, _)] := hE.sel [1, 2] rfl
  refine hK1 _ _ ?_
  refine wp_seq_k (fun K2 hK2 => ?_)
  refine wp_plain [true, true, true] rfl rfl ?_
  refine s_fieldAddr hE rfl fo30_1 rfl ?_; clear hE a; intro a hE
  refine s_load1 hE rfl (hM.get 0 rfl) rfl one3 (by intro X h; cases h) rfl ?_; clear hE a; intro a hE
  refine s_assign hE rfl rfl ?_; clear hE a; intro a hE
  refine q_nil ?_
  replace hE : Env a 5 [(2, _)] := hE.sel [2] rfl
  refine hK2 _ _ ?_
  refine wp_ret ?_
  refine f_ret1 hE rfl rfl ?_
  exact ⟨(by first | rfl | (simp; done)), hM.pick [] rfl⟩
theorem psize_no  (w : World)  : Calls Tryd.prog 23 #[.agg zeroP.toArray] w fun e w' => e = .returned (.int .i64 0) ∧ Mem w [] w' [] := by
  have hM := Mem.start0 w
  refine f_enter 5 Tryd.func23 rfl rfl rfl ?_
  intro a hE
  replace hE : Env a 5 [(0, _)] := hE
  refine wp_seq_k (fun K1 hK1 => ?_)
  refine wp_plain [false, true] rfl rfl ?_
  refine s_box (ss := [wd (List.replicate 8 0), [.int .i64 0], [.bool false]]) [8, 1, 1] hE hM rfl rfl (by simp [*]) rfl ?_; clear hE a; intro a b1 w1 hE hM'
  clear hM; have hM := hM'; clear hM'
  refine s_assign hE rfl rfl ?_; clear hE a; intro a hE
  refine q_nil ?_
  replace hE : Env a 5 [(1, _), (2, _)] := hE.sel [1, 2] rfl
  refine hK1 _ _ ?_
  refine wp_seq_k (fun K2 hK2 => ?_)
  refine wp_plain [true, true, true] rfl rfl ?_
  refine s_fieldAddr hE rfl fo30_1 rfl ?_; clear hE a; intro a hE
  refine s_load1 hE rfl (hM.get 0 rfl) rfl one3 (by intro X h; cases h) rfl ?_; clear hE a; intro a hE
  refine s_assign hE rfl rfl ?_; clear hE a; intro a hE
  refine q_nil ?_
  replace hE : Env a 5 [(2, _)] := hE.sel [2] rfl
  refine hK2 _ _ ?_
  refine wp_ret ?_
  refine f_ret1 hE rfl rfl ?_
  exact ⟨(by first | rfl | (simp; done)), hM.pick [] rfl⟩
theorem pmore_c (p : Pf) (v : Value) (bs : List UInt8) (c : Nat) (w : World) (hG : (glb 0).holds w) (hr : (rd v 1 bs.length c (bv bs)).holds w) (hp : OkPf p) (hb : bs.length ≤ 1099511627776) : Calls Tryd.prog 22 #[.agg (pfL p).toArray, v] w fun e w' => e = .returned (.tuple #[.agg (pfL (pfM p bs)).toArray, .int .i64 ((pfF p bs : Nat) : Int)]) ∧ Mem w [] w' [] := by
  match p, hp with
  | none, _ => exact more_no v bs c w hr
  | some (ns, z), hp =>
    by_cases h : bs.length % 64 = 0
    · have := more_c ns z v bs c (bs.length / 64) w hG hr hp.1 (by omega) (by have := hp.2.2; omega) (by omega)
      have e1 : pfM (some (ns, z)) bs = some (overW (bs.length / 64) ns bs, z + bs.length) := if_pos h
      have e2 : pfF (some (ns, z)) bs = 0 := if_pos h
      rw [e1, e2]; exact this
    · have := more_bad ns z v bs c w hr hp.1 h
      have e1 : pfM (some (ns, z)) bs = none := if_neg h
      have e2 : pfF (some (ns, z)) bs = 2 := if_neg h
      rw [e1, e2]; exact this
theorem psums_c (p : Pf) (v : Value) (bs : List UInt8) (c : Nat) (w : World) (hG : (glb 0).holds w) (hr : (rd v 1 bs.length c (bv bs)).holds w) (hp : OkPf p) (hb : bs.length ≤ 1099511627776) : Calls Tryd.prog 19 #[.agg (pfL p).toArray, v] w fun e w' => e = .returned (.agg (bv (pfS p bs)).toArray) ∧ Mem w [] w' [] := by
  match p, hp with
  | none, _ => exact psum_no v bs c w hr
  | some (ns, z), hp => exact psum_c ns z v bs c w hG hr hp.1 hp.2.1 hp.2.2 hb
theorem psize_c (p : Pf) (w : World) (hp : OkPf p) : Calls Tryd.prog 23 #[.agg (pfL p).toArray] w fun e w' => e = .returned (.int .i64 ((pfN p : Nat) : Int)) ∧ Mem w [] w' [] := by
  match p, hp with
  | none, _ => exact psize_no w
  | some (ns, z), hp => exact psize_yes ns z w hp.1
theorem ahead_bad (v : Value) (bs : List UInt8) (c : Nat) (w : World) (hr_bs : (rd v 1 bs.length c (bv bs)).holds w) (hb : ¬ bs.length % 64 = 0) : Calls Tryd.prog 18 #[v] w fun e w' => e = .returned (.tuple #[.agg zeroP.toArray, .int .i64 2]) ∧ Mem w [] w' [] := by
  have hM : Mem w [] w [rd v 1 bs.length c (bv bs)] := Mem.startR w (fun g hg => by
    simp only [List.mem_cons, List.not_mem_nil, or_false] at hg
    rcases hg with rfl
    · exact ⟨hr_bs, rfl⟩)
  refine f_enter 10 Tryd.func18 rfl rfl rfl ?_
  intro a hE
  replace hE : Env a 10 [(0, _)] := hE
  refine wp_seq_k (fun K1 hK1 => ?_)
  refine wp_plain [false, true] rfl rfl ?_
  refine s_alloc [8, 1, 1] hE hM zero30 rfl rfl ?_; clear hE a; intro a b2 w1 hE hM'
  clear hM; have hM := hM'; clear hM'
  replace hM := hM.resplit (ss' := [zeroP]) (ns' := [10]) (by simp [zeroP]) (by simp [zeroP])
  refine s_assign hE rfl rfl ?_; clear hE a; intro a hE
  refine q_nil ?_
  refine hK1 _ _ ?_
  refine wp_seq_k (fun K2 hK2 => ?_)
  refine wp_plain [false, true, true, false, true, true, false, true] rfl rfl ?_
  refine s_call hE rfl Tryd.call40 (seeds_c _) rfl ?_
  rintro e w2 ⟨rfl, hN⟩
  refine ⟨_, rfl, trivial, ?_⟩; clear hE a; intro a hE
  replace hM : Mem _ _ w2 [_, _] := hM.call0 hN trivial; clear hN
  refine s_buildS [wd seedsW, [.bool true]] hE rfl zero30 rfl fpl30 ⟨rfl, rfl, rfl, rfl, trivial⟩ rfl ?_; clear hE a; intro a hE
  refine s_move hE rfl rfl ?_; clear hE a; intro a hE
  refine s_call hE rfl Tryd.call22 (more_bad seedsW 0 v bs c _ (hM.get 1 rfl) rfl hb) rfl ?_
  rintro e w3 ⟨rfl, hN⟩
  refine ⟨_, rfl, trivial, ?_⟩; clear hE a; intro a hE
  replace hM : Mem _ _ w3 [_, _] := hM.call0 hN trivial; clear hN
  refine s_extract hE rfl rfl rfl ?_; clear hE a; intro a hE
  refine s_extract hE rfl rfl rfl ?_; clear hE a; intro a hE
  refine s_storeSeg 0 (vs := zeroP) hE rfl rfl hM rfl sz30 (by simp [zeroP]) zeroP_one rfl (by simp [zeroP]) rfl (by intro X h; cases h) ?_; intro w4 hM'; clear hM; have hM := hM'; clear hM'
  simp only [List.set_cons_zero] at hM
  refine s_assign hE rfl rfl ?_; clear hE a; intro a hE
  refine q_nil ?_
  replace hE : Env a 10 [(2, _), (3, _)] := hE.sel [2, 3] rfl
  refine hK2 _ _ ?_
  refine wp_ret ?_
  refine f_ret2 hE rfl (res_cellN rfl (hM.get 0 rfl) row30 rfl) rfl ?_
  exact ⟨(by first | rfl | (simp; done)), hM.pick [] rfl⟩
theorem pahead_c (v : Value) (bs : List UInt8) (c : Nat) (w : World) (hG : (glb 0).holds w) (hr : (rd v 1 bs.length c (bv bs)).holds w) (hb : bs.length ≤ 288230376151711744) : Calls Tryd.prog 18 #[v] w fun e w' => e = .returned (.tuple #[.agg (pfL (pfA bs)).toArray, .int .i64 ((pfE bs : Nat) : Int)]) ∧ Mem w [] w' [] := by
  by_cases h : bs.length % 64 = 0
  · rw [pfA_some h, pfE_zero h]; exact ahead_c v bs c (bs.length / 64) w hG hr (by omega) hb
  · rw [pfA_none h, pfE_two h]; exact ahead_bad v bs c w hr h
theorem spelt_c (s : List UInt8) (w : World) (hG : (glb 0).holds w) (hQ : tabQ.holds w) (hs : s.length ≤ 100000) : Calls Tryd.prog 29 #[.string (str s)] w fun e w' => e = .returned (.string (str (hexL (shaW s)))) ∧ Mem w [] w' [] := by
  have hM : Mem w [] w [glb 0, tabQ] := Mem.startR w (fun g hg => by
    simp only [List.mem_cons, List.not_mem_nil, or_false] at hg
    rcases hg with rfl | rfl
    · exact ⟨hG, rfl⟩
    · exact ⟨hQ, rfl⟩)
  refine f_enter 7 Tryd.func29 rfl rfl rfl ?_
  intro a hE
  replace hE : Env a 7 [(0, _)] := hE
  refine wp_seq_k (fun K1 hK1 => ?_)
  refine wp_plain [true] rfl rfl ?_
  refine s_assign hE rfl rfl ?_; clear hE a; intro a hE
  refine q_nil ?_
  refine hK1 _ _ ?_
  refine wp_seq_k (fun K2 hK2 => ?_)
  refine wp_plain [true, false, false, false, true] rfl rfl ?_
  refine s_move hE rfl rfl ?_; clear hE a; intro a hE
  refine s_ofStr hE rfl hM Tryd.underlying9 Tryd.underlying23 Tryd.underlying5 (len47 (by first | (simp only [str_size]; omega) | omega | decide | (simp; done) | (simp; omega))) rfl ?_; clear hE a; intro a v4 w1 hE hM'; clear hM; have hM := hM'; clear hM'
  replace hM := hM.ownEq (m' := s.length) (cs' := bv s) (by first | rfl | simp | decide | kernel_rfl) (by first | rfl | simp | kernel_rfl)
  obtain ⟨cq1, hq1⟩ := own_rd (hM.get 0 rfl)
  refine s_call hE rfl Tryd.call20 (sha_c _ s _ _ (hM.get 1 rfl) hq1 (by first | omega | (simp; done) | (simp; omega))) rfl ?_
  rintro e w2 ⟨rfl, hN⟩
  refine ⟨_, rfl, trivial, ?_⟩; clear hE a; intro a hE
  replace hM : Mem _ _ w2 [_, _, _] := hM.call0 hN trivial; clear hN
  refine s_call hE rfl Tryd.call27 (text_c (shaW s) _ (hM.get 2 rfl) (shaW_length _)) rfl ?_
  rintro e w3 ⟨rfl, hN⟩
  refine ⟨_, rfl, trivial, ?_⟩; clear hE a; intro a hE
  replace hM : Mem _ _ w3 [_, _, _] := hM.call0 hN trivial; clear hN
  refine s_assign hE rfl rfl ?_; clear hE a; intro a hE
  refine q_nil ?_
  replace hE : Env a 7 [(2, _)] := hE.sel [2] rfl
  refine hK2 _ _ ?_
  refine wp_ret ?_
  refine f_ret1 hE rfl rfl ?_
  exact ⟨(by first | rfl | (simp; done)), hM.pick [] rfl⟩
theorem abcT : hexL (shaW [97, 98, 99]) = [98, 97, 55, 56, 49, 54, 98, 102, 56, 102, 48, 49, 99, 102, 101, 97, 52, 49, 52, 49, 52, 48, 100, 101, 53, 100, 97, 101, 50, 50, 50, 51, 98, 48, 48, 51, 54, 49, 97, 51, 57, 54, 49, 55, 55, 97, 57, 99, 98, 52, 49, 48, 102, 102, 54, 49, 102, 50, 48, 48, 49, 53, 97, 100] := by decide +kernel
theorem awake3_c  (w : World) (hG : (glb 0).holds w) (hQ : tabQ.holds w) : Calls Tryd.prog 17 #[] w fun e w' => e = .returned (.bool true) ∧ Mem w [] w' [] := by
  have hM : Mem w [] w [glb 0, tabQ] := Mem.startR w (fun g hg => by
    simp only [List.mem_cons, List.not_mem_nil, or_false] at hg
    rcases hg with rfl | rfl
    · exact ⟨hG, rfl⟩
    · exact ⟨hQ, rfl⟩)
  refine f_enter 23 Tryd.func17 rfl rfl rfl ?_
  intro a hE
  replace hE : Env a 23 [] := hE
  refine wp_seq_k (fun K1 hK1 => ?_)
  refine wp_plain [true] rfl rfl ?_
  refine s_assign hE rfl rfl ?_; clear hE a; intro a hE
  refine q_nil ?_
  refine hK1 _ _ ?_
  refine wp_seq_k (fun K2 hK2 => ?_)
  refine wp_plain [false, true, true, true, false, false, true] rfl rfl ?_
  refine s_call hE rfl Tryd.call18 (pahead_c _ ([] : List UInt8) _ _ (hM.get 0 rfl) (rd_nil _) (by have hl_ : ([] : List UInt8).length = 0 := rfl; first | omega | (simp; done) | (simp; omega))) rfl ?_
  rintro e w1 ⟨rfl, hN⟩
  refine ⟨_, rfl, trivial, ?_⟩; clear hE a; intro a hE
  replace hM : Mem _ _ w1 [_, _] := hM.call0 hN trivial; clear hN
  refine s_move hE rfl rfl ?_; clear hE a; intro a hE
  refine s_extract hE rfl rfl rfl ?_; clear hE a; intro a hE
  refine s_extract hE rfl rfl rfl ?_; clear hE a; intro a hE
  refine s_alloc [8, 1, 1] hE hM zero30 rfl rfl ?_; clear hE a; intro a b1 w2 hE hM'
  clear hM; have hM := hM'; clear hM'
  replace hM := hM.resplit (ss' := [zeroP]) (ns' := [10]) (by simp [zeroP]) (by simp [zeroP])
  refine s_storeSeg 0 (vs := pfL (pfA ([] : List UInt8))) hE rfl rfl hM rfl sz30 (pfL_length (pfA_ok (by have hl_ : ([] : List UInt8).length = 0 := rfl; first | omega | (simp; done) | (simp; omega)))) (pfL_one _) rfl (by simp [zeroP]) rfl (by intro X h; cases h) ?_; intro w3 hM'; clear hM; have hM := hM'; clear hM'
  simp only [List.set_cons_zero] at hM
  refine s_assign hE rfl rfl ?_; clear hE a; intro a hE
  refine q_nil ?_
  replace hE : Env a 23 [(0, _), (1, _), (2, _)] := hE.sel [0, 1, 2] rfl
  refine hK2 _ _ ?_
  refine wp_seq_k (fun K3 hK3 => ?_)
  refine wp_plain [true, true, true, true, false, false, false, false, false, false, true, true, true, false, true, true, true] rfl rfl ?_
  refine s_move hE rfl rfl ?_; clear hE a; intro a hE
  refine s_bin hE rfl rfl bin_eql rfl ?_; clear hE a; intro a hE
  refine s_move hE rfl rfl ?_; clear hE a; intro a hE
  replace hE := hE.cast 9 rfl (show _ = Value.bool true from (congrArg Value.bool (decide_eq_true rfl)))
  refine g_yes hE rfl rfl ?_
  refine s_loadN hE rfl (hM.get 0 rfl) row30 rfl (by intro X h; cases h) rfl ?_; clear hE a; intro a hE
  refine g_yes hE rfl rfl ?_
  refine s_buildSlice (xs := [.const (.int .u8 97), .const (.int .u8 98), .const (.int .u8 99)]) (bv [97, 98, 99]) hE hM sl23 rfl rfl rfl (by intro v hv; first | (cases hv; done) | (obtain ⟨x, _, rfl⟩ := List.mem_map.1 (show v ∈ bv [97, 98, 99] from hv); rfl)) rfl rfl rfl rfl ?_; clear hE a; intro a v11 w4 hE hM'
  clear hM; have hM := hM'; clear hM'
  replace hM := hM.ownEq (m' := [97, 98, 99].length) (cs' := bv [97, 98, 99]) rfl rfl
  refine g_yes hE rfl rfl ?_
  refine s_convSame hE rfl hM Tryd.underlying23 Tryd.underlying5 (by have hl_ : [97, 98, 99].length = 3 := (by first | (simp; done) | (simp [*]; done) | (simp; omega)); first | omega | decide | (simp; done) | (simp; omega)) (by intro X h; cases h) rfl ?_; clear hE a; intro a w5 hE hM'; clear hM; have hM := hM'; clear hM'
  refine g_yes hE rfl rfl ?_
  obtain ⟨cq1, hq1⟩ := own_rd (hM.get 0 rfl)
  refine s_call hE rfl Tryd.call19 (psums_c (pfA ([] : List UInt8)) _ [97, 98, 99] _ _ (hM.get 2 rfl) hq1 (pfA_ok (by have hl_ : ([] : List UInt8).length = 0 := rfl; first | omega | (simp; done) | (simp; omega))) (by have hl_ : [97, 98, 99].length = 3 := (by first | (simp; done) | (simp [*]; done) | (simp; omega)); first | omega | (simp; done) | (simp; omega))) rfl ?_
  rintro e w6 ⟨rfl, hN⟩
  refine ⟨_, rfl, trivial, ?_⟩; clear hE a; intro a hE
  replace hM : Mem _ _ w6 [_, _, _, _] := hM.call0 hN trivial; clear hN
  refine g_yes hE rfl rfl ?_
  refine s_buildSlice (xs := [.const (.int .u8 97), .const (.int .u8 98), .const (.int .u8 99)]) (bv [97, 98, 99]) hE hM sl23 rfl rfl rfl (by intro v hv; first | (cases hv; done) | (obtain ⟨x, _, rfl⟩ := List.mem_map.1 (show v ∈ bv [97, 98, 99] from hv); rfl)) rfl rfl rfl rfl ?_; clear hE a; intro a v14 w7 hE hM'
  clear hM; have hM := hM'; clear hM'
  replace hM := hM.ownEq (m' := [97, 98, 99].length) (cs' := bv [97, 98, 99]) rfl rfl
  refine g_yes hE rfl rfl ?_
  refine s_convSame hE rfl hM Tryd.underlying23 Tryd.underlying5 (by have hl_ : [97, 98, 99].length = 3 := (by first | (simp; done) | (simp [*]; done) | (simp; omega)); first | omega | decide | (simp; done) | (simp; omega)) (by intro X h; cases h) rfl ?_; clear hE a; intro a w8 hE hM'; clear hM; have hM := hM'; clear hM'
  refine g_yes hE rfl rfl ?_
  obtain ⟨cq2, hq2⟩ := own_rd (hM.get 0 rfl)
  refine s_call hE rfl Tryd.call20 (sha_c _ [97, 98, 99] _ _ (hM.get 3 rfl) hq2 (by have hl_ : [97, 98, 99].length = 3 := (by first | (simp; done) | (simp [*]; done) | (simp; omega)); first | omega | (simp; done) | (simp; omega))) rfl ?_
  rintro e w9 ⟨rfl, hN⟩
  refine ⟨_, rfl, trivial, ?_⟩; clear hE a; intro a hE
  replace hM : Mem _ _ w9 [_, _, _, _, _] := hM.call0 hN trivial; clear hN
  refine g_yes hE rfl rfl ?_
  refine s_bin hE rfl rfl (eqa35 (pfS_len ..) (shaW_length _)).1 rfl ?_; clear hE a; intro a hE
  refine s_pickt hE rfl rfl rfl ?_; clear hE a; intro a hE
  refine s_move hE rfl rfl ?_; clear hE a; intro a hE
  replace hE := hE.cast 19 rfl (show _ = Value.bool true from (congrArg Value.bool (decide_eq_true (pfS_nil _))))
  refine g_yes hE rfl rfl ?_
  refine s_call hE rfl Tryd.call29 (spelt_c [97, 98, 99] _ (hM.get 3 rfl) (hM.get 4 rfl) (by have hl_0 : [97, 98, 99].length = 3 := (by first | (simp; done) | (simp [*]; done) | (simp; omega)); first | omega | assumption | (simp; done) | (simp; omega) | decide)) rfl ?_
  rintro e w10 ⟨rfl, hN⟩
  refine ⟨_, rfl, trivial, ?_⟩; clear hE a; intro a hE
  replace hM : Mem _ _ w10 [_, _, _, _, _] := hM.call0 hN trivial; clear hN
  refine g_yes hE rfl rfl ?_
  refine s_bin hE rfl rfl bins_str.1 rfl ?_; clear hE a; intro a hE
  refine s_pickt hE rfl rfl rfl ?_; clear hE a; intro a hE
  refine s_assign hE rfl rfl ?_; clear hE a; intro a hE
  refine q_nil ?_
  replace hE : Env a 23 [(0, _), (1, _)] := hE.sel [0, 1] rfl
  refine hK3 _ _ ?_
  refine wp_ret ?_
  refine f_ret1 hE rfl rfl ?_
  exact ⟨(congrArg (fun b => Ending.returned (Value.bool b)) (decide_eq_true abcT)), hM.pick [] rfl⟩
end Go.Proofs.YtbjdbiljkkfklaaDoor
