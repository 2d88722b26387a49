/- TreeProves of casematelaw18 returns true for whatever key, height, leaves, leaf, tags and proof; the slices read behind the call as before. No condition. -/
import Derived.Test.YtacebdngbalkmaaDoorLw
import Derived.Test.YtacebdngbalkmaaDoorTie
import Derived.Test.YtacebdngbalkmaaDoorCards
set_option linter.unusedSimpArgs false
set_option linter.unusedVariables false
namespace Go.Proofs.YtacebdngbalkmaaDoor
open Go Go.Kx
open Go.ChangeShapes Go.WideShapes Go.ChangeAt Go.RowKit
theorem fo26_0 : fieldOff Tryd.prog 26 0 = some 0 := by kernel_rfl
theorem fo26_1 : fieldOff Tryd.prog 26 1 = some 1 := by kernel_rfl
theorem fo46_0 : fieldOff Tryd.prog 46 0 = some 0 := by kernel_rfl
theorem fo46_2 : fieldOff Tryd.prog 46 2 = some 33 := by kernel_rfl
theorem fo46_1 : fieldOff Tryd.prog 46 1 = some 1 := by kernel_rfl
theorem eqa52 : ∀ {a b : List UInt8}, a.length = 64 → b.length = 64 → Bin Tryd.prog .eql 52 (.agg (bv a).toArray) (.agg (bv b).toArray) (.bool (decide (a = b))) ∧ Bin Tryd.prog .neq 52 (.agg (bv a).toArray) (.agg (bv b).toArray) (.bool (!decide (a = b))) := fun ha hb => bins_arr8 Tryd.underlying52 (by kernel_rfl) Tryd.underlying5 (by kernel_rfl) (by kernel_rfl) ha hb
set_option maxRecDepth 20000 in
theorem treeProves_big (k : List UInt8) (y : Int) (v : Value) (ls : List (List UInt8)) (c : Nat) (z : Int) (tg : List UInt8) (vp : Value) (ps : List (List UInt8)) (cp : Nat) (tp : List UInt8) (w : World) (hG : (glb 0).holds w) (hl_k : k.length = 32) (hr_ls : (rd v 32 ls.length c (ls.flatMap bv)).holds w) (ho_ls : ∀ x, x ∈ ls → x.length = 32) (hl_tg : tg.length = 32) (hr_ps : (rd vp 64 ps.length cp (ps.flatMap bv)).holds w) (ho_ps : ∀ x, x ∈ ps → x.length = 64) (hl_tp : tp.length = 32) (hh : 5 < y ∧ y ≤ 12) : Calls Tryd.prog 4 #[.agg (bv k).toArray, .agg ([[.int .i64 y], [v]] : List (List Value)).flatten.toArray, .agg ([[.int .i64 z], bv tg, [vp], bv tp] : List (List Value)).flatten.toArray] w fun e w' => e = .returned (.bool true) ∧ Mem w [] w' [] := by
  have hM : Mem w [] w [rd v 32 ls.length c (ls.flatMap bv), rd vp 64 ps.length cp (ps.flatMap bv), glb 0] := Mem.startR w (fun g hg => by
    simp only [List.mem_cons, List.not_mem_nil, or_false] at hg
    rcases hg with rfl | rfl | rfl
    · exact ⟨hr_ls, rfl⟩
    · exact ⟨hr_ps, rfl⟩
    · exact ⟨hG, rfl⟩)
  refine f_enter 171 Tryd.func4 rfl rfl rfl ?_
  intro a hE
  replace hE : Env a 171 [(0, _), (1, _), (2, _)] := hE
  refine wp_seq_k (fun K1 hK1 => ?_)
  refine wp_plain [false, false, false, true] rfl rfl ?_
  refine s_box (ss := [bv k]) [32] hE hM rfl (by simp [Value.cells]) (by simp [*]) rfl ?_; clear hE a; intro a b3 w1 hE hM'
  clear hM; have hM := hM'; clear hM'
  refine s_box (ss := [[.int .i64 y], [v]]) [1, 1] hE hM rfl rfl (by simp [*]) rfl ?_; clear hE a; intro a b4 w2 hE hM'
  clear hM; have hM := hM'; clear hM'
  refine s_box (ss := [[.int .i64 z], bv tg, [vp], bv tp]) [1, 32, 1, 32] hE hM rfl rfl (by simp [*]) rfl ?_; clear hE a; intro a b5 w3 hE hM'
  clear hM; have hM := hM'; clear hM'
  refine s_assign hE rfl rfl ?_; clear hE a; intro a hE
  refine q_nil ?_
  replace hE : Env a 171 [(3, _), (4, _), (5, _), (6, _)] := hE.sel [3, 4, 5, 6] rfl
  refine hK1 _ _ ?_
  refine wp_seq_k (fun K2 hK2 => ?_)
  refine wp_seq_k (fun K3 hK3 => ?_)
  refine wp_plain [true, true, true, true, true, true, true, true] rfl rfl ?_
  refine s_fieldAddr hE rfl fo26_0 rfl ?_; clear hE a; intro a hE
  refine s_load1 hE rfl (hM.get 1 rfl) rfl one3 (by intro X h; cases h) rfl ?_; clear hE a; intro a hE
  refine s_bin hE rfl rfl bin_gtr rfl ?_; clear hE a; intro a hE
  refine s_move hE rfl rfl ?_; clear hE a; intro a hE
  replace hE := hE.cast 19 rfl (show _ = Value.bool true from (congrArg Value.bool (decide_eq_true (by omega))))
  refine g_yes hE rfl rfl ?_
  refine s_fieldAddr hE rfl fo26_0 rfl ?_; clear hE a; intro a hE
  refine g_yes hE rfl rfl ?_
  refine s_load1 hE rfl (hM.get 1 rfl) rfl one3 (by intro X h; cases h) rfl ?_; clear hE a; intro a hE
  refine g_yes hE rfl rfl ?_
  refine s_bin hE rfl rfl bin_leq rfl ?_; clear hE a; intro a hE
  refine s_pickt hE rfl rfl rfl ?_; clear hE a; intro a hE
  refine q_nil ?_
  replace hE : Env a 171 [(3, _), (4, _), (5, _), (6, _), (23, _)] := hE.sel [3, 4, 5, 6, 23] rfl
  refine hK3 _ _ ?_
  replace hE := hE.cast 23 rfl (show _ = Value.bool true from (congrArg Value.bool (decide_eq_true (by omega))))
  refine wp_cond_true (hE.eval rfl) ?_
  refine wp_seq_k (fun K4 hK4 => ?_)
  refine wp_plain [false, true] rfl rfl ?_
  refine s_call hE rfl Tryd.call9 (works_c  _ (hM.get 5 rfl)) rfl ?_
  rintro e w4 ⟨rfl, hN⟩
  refine ⟨_, rfl, trivial, ?_⟩; clear hE a; intro a hE
  replace hM : Mem _ _ w4 [_, _, _, _, _, _] := hM.call0 hN trivial; clear hN
  refine s_assign hE rfl rfl ?_; clear hE a; intro a hE
  refine q_nil ?_
  replace hE : Env a 171 [(3, _), (4, _), (5, _), (6, _), (23, _)] := hE.sel [3, 4, 5, 6, 23] rfl
  refine hK4 _ _ ?_
  refine wp_ret ?_
  refine q_then_r ?_
  refine f_ret1 hE rfl rfl ?_
  exact ⟨(by first | rfl | (simp; done)), hM.pick [] rfl⟩
set_option maxRecDepth 20000 in
theorem treeProves_no1 (k : List UInt8) (y : Int) (v : Value) (ls : List (List UInt8)) (c : Nat) (z : Int) (tg : List UInt8) (vp : Value) (ps : List (List UInt8)) (cp : Nat) (tp : List UInt8) (w : World) (hG : (glb 0).holds w) (hl_k : k.length = 32) (hr_ls : (rd v 32 ls.length c (ls.flatMap bv)).holds w) (ho_ls : ∀ x, x ∈ ls → x.length = 32) (hl_tg : tg.length = 32) (hr_ps : (rd vp 64 ps.length cp (ps.flatMap bv)).holds w) (ho_ps : ∀ x, x ∈ ps → x.length = 64) (hl_tp : tp.length = 32) (hh : ¬ (1 ≤ y ∧ y ≤ 12)) : Calls Tryd.prog 4 #[.agg (bv k).toArray, .agg ([[.int .i64 y], [v]] : List (List Value)).flatten.toArray, .agg ([[.int .i64 z], bv tg, [vp], bv tp] : List (List Value)).flatten.toArray] w fun e w' => e = .returned (.bool true) ∧ Mem w [] w' [] := by
  have hll : (ls.take (min ls.length 32)).length = min ls.length 32 := by rw [List.length_take]; omega
  have hoL : OkTs (ls.take (min ls.length 32)) := fun x hx => ho_ls x (List.mem_of_mem_take hx)
  have hM : Mem w [] w [rd v 32 ls.length c (ls.flatMap bv), rd vp 64 ps.length cp (ps.flatMap bv), glb 0] := Mem.startR w (fun g hg => by
    simp only [List.mem_cons, List.not_mem_nil, or_false] at hg
    rcases hg with rfl | rfl | rfl
    · exact ⟨hr_ls, rfl⟩
    · exact ⟨hr_ps, rfl⟩
    · exact ⟨hG, rfl⟩)
  refine f_enter 171 Tryd.func4 rfl rfl rfl ?_
  intro a hE
  replace hE : Env a 171 [(0, _), (1, _), (2, _)] := hE
  refine wp_seq_k (fun K1 hK1 => ?_)
  refine wp_plain [false, false, false, true] rfl rfl ?_
  refine s_box (ss := [bv k]) [32] hE hM rfl (by simp [Value.cells]) (by simp [*]) rfl ?_; clear hE a; intro a b3 w1 hE hM'
  clear hM; have hM := hM'; clear hM'
  refine s_box (ss := [[.int .i64 y], [v]]) [1, 1] hE hM rfl rfl (by simp [*]) rfl ?_; clear hE a; intro a b4 w2 hE hM'
  clear hM; have hM := hM'; clear hM'
  refine s_box (ss := [[.int .i64 z], bv tg, [vp], bv tp]) [1, 32, 1, 32] hE hM rfl rfl (by simp [*]) rfl ?_; clear hE a; intro a b5 w3 hE hM'
  clear hM; have hM := hM'; clear hM'
  refine s_assign hE rfl rfl ?_; clear hE a; intro a hE
  refine q_nil ?_
  replace hE : Env a 171 [(3, _), (4, _), (5, _), (6, _)] := hE.sel [3, 4, 5, 6] rfl
  refine hK1 _ _ ?_
  refine wp_seq_k (fun K2 hK2 => ?_)
  refine wp_seq_k (fun K3 hK3 => ?_)
  refine wp_plain [true, true, true, true, true, true, true, true] rfl rfl ?_
  refine s_fieldAddr hE rfl fo26_0 rfl ?_; clear hE a; intro a hE
  refine s_load1 hE rfl (hM.get 1 rfl) rfl one3 (by intro X h; cases h) rfl ?_; clear hE a; intro a hE
  refine s_bin hE rfl rfl bin_gtr rfl ?_; clear hE a; intro a hE
  refine s_move hE rfl rfl ?_; clear hE a; intro a hE
  refine hE.split 19 rfl (fun hb19 hE' => ?_) (fun hb19 hE' => ?_)
  · replace hE := hE'; clear hE'
    replace hb19 := of_decide_eq_true hb19
    refine g_yes hE rfl rfl ?_
    refine s_fieldAddr hE rfl fo26_0 rfl ?_; clear hE a; intro a hE
    refine g_yes hE rfl rfl ?_
    refine s_load1 hE rfl (hM.get 1 rfl) rfl one3 (by intro X h; cases h) rfl ?_; clear hE a; intro a hE
    refine g_yes hE rfl rfl ?_
    refine s_bin hE rfl rfl bin_leq rfl ?_; clear hE a; intro a hE
    refine s_pickt hE rfl rfl rfl ?_; clear hE a; intro a hE
    refine q_nil ?_
    replace hE : Env a 171 [(3, _), (4, _), (5, _), (6, _), (23, _)] := hE.sel [3, 4, 5, 6, 23] rfl
    refine hK3 _ _ ?_
    refine hE.split 23 rfl (fun hb23 hE' => ?_) (fun hb23 hE' => ?_)
    · replace hE := hE'; clear hE'
      replace hb23 := of_decide_eq_true hb23
      refine wp_cond_true (hE.eval rfl) ?_
      refine wp_seq_k (fun K4 hK4 => ?_)
      refine wp_plain [false, true] rfl rfl ?_
      refine s_call hE rfl Tryd.call9 (works_c  _ (hM.get 5 rfl)) rfl ?_
      rintro e w4 ⟨rfl, hN⟩
      refine ⟨_, rfl, trivial, ?_⟩; clear hE a; intro a hE
      replace hM : Mem _ _ w4 [_, _, _, _, _, _] := hM.call0 hN trivial; clear hN
      refine s_assign hE rfl rfl ?_; clear hE a; intro a hE
      refine q_nil ?_
      replace hE : Env a 171 [(3, _), (4, _), (5, _), (6, _), (23, _)] := hE.sel [3, 4, 5, 6, 23] rfl
      refine hK4 _ _ ?_
      refine wp_ret ?_
      refine q_then_r ?_
      refine f_ret1 hE rfl rfl ?_
      exact ⟨(by first | rfl | (simp; done)), hM.pick [] rfl⟩
    · replace hE := hE'; clear hE'
      replace hb23 := of_decide_eq_false hb23
      refine wp_cond_false (hE.eval rfl) ?_
      refine wp_skip ?_
      refine hK2 _ _ ?_
      refine wp_seq_k (fun K4 hK4 => ?_)
      refine wp_drawnM hM (by kernel_rfl) (fun _ => False) [(0, true), (1, true), (2, true), (3, true), (4, true), (5, true), (6, true), (7, true), (8, true), (9, true), (10, false), (11, true), (12, true), (13, true), (14, true), (15, true)] [(10, [(11, 10), (12, 11), (13, 11), (14, 10), (15, 10)])] (by kernel_rfl) rfl ?_
      intro w4 hM' hww4; clear hM; have hM := hM'; clear hM'
      refine s_loadN hE rfl (hM.get 2 rfl) row23 rfl (by intro X h; cases h; simp) rfl ?_; clear hE a; intro a hE
      refine s_fieldAddr hE rfl fo26_0 rfl ?_; clear hE a; intro a hE
      refine s_load1 hE rfl (hM.get 1 rfl) rfl one3 (by intro X h; cases h; simp) rfl ?_; clear hE a; intro a hE
      refine s_fieldAddr hE rfl fo26_1 rfl ?_; clear hE a; intro a hE
      refine s_load1 hE rfl (hM.get 1 rfl) rfl one24 (by intro X h; cases h; simp) rfl ?_; clear hE a; intro a hE
      refine s_fieldAddr hE rfl fo26_1 rfl ?_; clear hE a; intro a hE
      refine s_load1 hE rfl (hM.get 1 rfl) rfl one24 (by intro X h; cases h; simp) rfl ?_; clear hE a; intro a hE
      refine s_len hE rfl Tryd.underlying24 (rd_slice (hM.get 3 rfl)) rfl ?_; clear hE a; intro a hE
      refine s_min hE rfl rfl rfl ?_; clear hE a; intro a hE
      replace hE := hE.cast 34 rfl (show _ = Value.int .i64 ((min ls.length 32 : Nat) : Int) from congrArg (Value.int .i64) (by split <;> omega))
      have hcap35 := rd_len (hM.get 3 rfl)
      refine s_slice (l := 0) (h := min ls.length 32) (mx' := c) hE rfl (hM.get 3 rfl) slt24 rfl ⟨_, rfl⟩ rfl (by simp) (Nat.zero_le _) (by first | omega | (simp; omega) | decide +kernel) (by first | omega | (simp; omega) | decide +kernel) (Nat.le_refl _) rfl ?_; clear hE a; intro a v35 hE hr35 hvb35
      replace hr35 := rd_takeR (f := bv) (ls := ls) (fun x hx => ((bv_length _).trans (ho_ls x hx))) (by first | omega | (simp; omega) | decide +kernel) hr35
      replace hM := hM.addPart 3 rfl hr35 hvb35; clear hr35
      refine s_call hE rfl Tryd.call10 (tnew_no1 k y _ (ls.take (min ls.length 32)) _ _ hl_k (hM.get 0 rfl) (ok_take ho_ls) (by omega)) rfl ?_
      rintro e w5 ⟨rfl, hN⟩
      refine ⟨_, rfl, hN.sta0 _, ?_⟩; clear hE a; intro a hE
      replace hM : Mem _ _ w5 [_, _, _, _, _, _, _] := hM.call0 hN trivial; clear hN
      refine s_move hE rfl rfl ?_; clear hE a; intro a hE
      refine s_extract hE rfl rfl rfl ?_; clear hE a; intro a hE
      refine s_extract hE rfl rfl rfl ?_; clear hE a; intro a hE
      refine s_assign hE rfl rfl ?_; clear hE a; intro a hE
      refine s_assign hE rfl rfl ?_; clear hE a; intro a hE
      refine q_nil ?_
      replace hE : Env a 171 [(3, _), (4, _), (5, _), (6, _), (7, _), (8, _), (23, _)] := hE.sel [3, 4, 5, 6, 7, 8, 23] rfl
      refine hK4 _ _ ?_
      refine wp_seq_k (fun K5 hK5 => ?_)
      refine wp_seq_k (fun K6 hK6 => ?_)
      refine wp_plain [true, true] rfl rfl ?_
      refine s_move hE rfl rfl ?_; clear hE a; intro a hE
      refine s_bin hE rfl rfl bin_neq rfl ?_; clear hE a; intro a hE
      replace hE := hE.cast 40 rfl (show _ = Value.bool true from (congrArg Value.bool (by decide)))
      refine q_nil ?_
      replace hE : Env a 171 [(3, _), (4, _), (5, _), (6, _), (7, _), (23, _), (40, _)] := hE.sel [3, 4, 5, 6, 7, 23, 40] rfl
      refine hK6 _ _ ?_
      refine wp_cond_true (hE.eval rfl) ?_
      refine wp_seq_k (fun K7 hK7 => ?_)
      refine wp_plain [false, true] rfl rfl ?_
      refine s_call hE rfl Tryd.call9 (works_c  _ (hM.get 6 rfl)) rfl ?_
      rintro e w6 ⟨rfl, hN⟩
      refine ⟨_, rfl, trivial, ?_⟩; clear hE a; intro a hE
      replace hM : Mem _ _ w6 [_, _, _, _, _, _, _] := hM.call0 hN trivial; clear hN
      refine s_assign hE rfl rfl ?_; clear hE a; intro a hE
      refine q_nil ?_
      replace hE : Env a 171 [(3, _), (4, _), (5, _), (6, _), (7, _), (23, _), (40, _)] := hE.sel [3, 4, 5, 6, 7, 23, 40] rfl
      refine hK7 _ _ ?_
      refine wp_ret ?_
      refine q_then_r ?_
      refine f_ret1 hE rfl rfl ?_
      exact ⟨(by first | rfl | (simp; done)), hM.pick [] rfl⟩
  · replace hE := hE'; clear hE'
    replace hb19 := of_decide_eq_false hb19
    refine g_no (b := false) hE rfl rfl rfl ?_; clear hE a; intro a hE
    refine g_no (b := false) hE rfl rfl rfl ?_; clear hE a; intro a hE
    refine g_no (b := false) hE rfl rfl rfl ?_; clear hE a; intro a hE
    refine s_pickf hE rfl rfl rfl ?_; clear hE a; intro a hE
    refine q_nil ?_
    replace hE : Env a 171 [(3, _), (4, _), (5, _), (6, _), (23, _)] := hE.sel [3, 4, 5, 6, 23] rfl
    refine hK3 _ _ ?_
    refine wp_cond_false (hE.eval rfl) ?_
    refine wp_skip ?_
    refine hK2 _ _ ?_
    refine wp_seq_k (fun K4 hK4 => ?_)
    refine wp_drawnM hM (by kernel_rfl) (fun _ => False) [(0, true), (1, true), (2, true), (3, true), (4, true), (5, true), (6, true), (7, true), (8, true), (9, true), (10, false), (11, true), (12, true), (13, true), (14, true), (15, true)] [(10, [(11, 10), (12, 11), (13, 11), (14, 10), (15, 10)])] (by kernel_rfl) rfl ?_
    intro w4 hM' hww4; clear hM; have hM := hM'; clear hM'
    refine s_loadN hE rfl (hM.get 2 rfl) row23 rfl (by intro X h; cases h; simp) rfl ?_; clear hE a; intro a hE
    refine s_fieldAddr hE rfl fo26_0 rfl ?_; clear hE a; intro a hE
    refine s_load1 hE rfl (hM.get 1 rfl) rfl one3 (by intro X h; cases h; simp) rfl ?_; clear hE a; intro a hE
    refine s_fieldAddr hE rfl fo26_1 rfl ?_; clear hE a; intro a hE
    refine s_load1 hE rfl (hM.get 1 rfl) rfl one24 (by intro X h; cases h; simp) rfl ?_; clear hE a; intro a hE
    refine s_fieldAddr hE rfl fo26_1 rfl ?_; clear hE a; intro a hE
    refine s_load1 hE rfl (hM.get 1 rfl) rfl one24 (by intro X h; cases h; simp) rfl ?_; clear hE a; intro a hE
    refine s_len hE rfl Tryd.underlying24 (rd_slice (hM.get 3 rfl)) rfl ?_; clear hE a; intro a hE
    refine s_min hE rfl rfl rfl ?_; clear hE a; intro a hE
    replace hE := hE.cast 34 rfl (show _ = Value.int .i64 ((min ls.length 32 : Nat) : Int) from congrArg (Value.int .i64) (by split <;> omega))
    have hcap35 := rd_len (hM.get 3 rfl)
    refine s_slice (l := 0) (h := min ls.length 32) (mx' := c) hE rfl (hM.get 3 rfl) slt24 rfl ⟨_, rfl⟩ rfl (by simp) (Nat.zero_le _) (by first | omega | (simp; omega) | decide +kernel) (by first | omega | (simp; omega) | decide +kernel) (Nat.le_refl _) rfl ?_; clear hE a; intro a v35 hE hr35 hvb35
    replace hr35 := rd_takeR (f := bv) (ls := ls) (fun x hx => ((bv_length _).trans (ho_ls x hx))) (by first | omega | (simp; omega) | decide +kernel) hr35
    replace hM := hM.addPart 3 rfl hr35 hvb35; clear hr35
    refine s_call hE rfl Tryd.call10 (tnew_no1 k y _ (ls.take (min ls.length 32)) _ _ hl_k (hM.get 0 rfl) (ok_take ho_ls) (by omega)) rfl ?_
    rintro e w5 ⟨rfl, hN⟩
    refine ⟨_, rfl, hN.sta0 _, ?_⟩; clear hE a; intro a hE
    replace hM : Mem _ _ w5 [_, _, _, _, _, _, _] := hM.call0 hN trivial; clear hN
    refine s_move hE rfl rfl ?_; clear hE a; intro a hE
    refine s_extract hE rfl rfl rfl ?_; clear hE a; intro a hE
    refine s_extract hE rfl rfl rfl ?_; clear hE a; intro a hE
    refine s_assign hE rfl rfl ?_; clear hE a; intro a hE
    refine s_assign hE rfl rfl ?_; clear hE a; intro a hE
    refine q_nil ?_
    replace hE : Env a 171 [(3, _), (4, _), (5, _), (6, _), (7, _), (8, _), (23, _)] := hE.sel [3, 4, 5, 6, 7, 8, 23] rfl
    refine hK4 _ _ ?_
    refine wp_seq_k (fun K5 hK5 => ?_)
    refine wp_seq_k (fun K6 hK6 => ?_)
    refine wp_plain [true, true] rfl rfl ?_
    refine s_move hE rfl rfl ?_; clear hE a; intro a hE
    refine s_bin hE rfl rfl bin_neq rfl ?_; clear hE a; intro a hE
    replace hE := hE.cast 40 rfl (show _ = Value.bool true from (congrArg Value.bool (by decide)))
    refine q_nil ?_
    replace hE : Env a 171 [(3, _), (4, _), (5, _), (6, _), (7, _), (23, _), (40, _)] := hE.sel [3, 4, 5, 6, 7, 23, 40] rfl
    refine hK6 _ _ ?_
    refine wp_cond_true (hE.eval rfl) ?_
    refine wp_seq_k (fun K7 hK7 => ?_)
    refine wp_plain [false, true] rfl rfl ?_
    refine s_call hE rfl Tryd.call9 (works_c  _ (hM.get 6 rfl)) rfl ?_
    rintro e w6 ⟨rfl, hN⟩
    refine ⟨_, rfl, trivial, ?_⟩; clear hE a; intro a hE
    replace hM : Mem _ _ w6 [_, _, _, _, _, _, _] := hM.call0 hN trivial; clear hN
    refine s_assign hE rfl rfl ?_; clear hE a; intro a hE
    refine q_nil ?_
    replace hE : Env a 171 [(3, _), (4, _), (5, _), (6, _), (7, _), (23, _), (40, _)] := hE.sel [3, 4, 5, 6, 7, 23, 40] rfl
    refine hK7 _ _ ?_
    refine wp_ret ?_
    refine q_then_r ?_
    refine f_ret1 hE rfl rfl ?_
    exact ⟨(by first | rfl | (simp; done)), hM.pick [] rfl⟩
set_option maxRecDepth 20000 in
theorem treeProves_no2 (k : List UInt8) (h : Nat) (v : Value) (ls : List (List UInt8)) (c : Nat) (z : Int) (tg : List UInt8) (vp : Value) (ps : List (List UInt8)) (cp : Nat) (tp : List UInt8) (w : World) (hG : (glb 0).holds w) (hl_k : k.length = 32) (hr_ls : (rd v 32 ls.length c (ls.flatMap bv)).holds w) (ho_ls : ∀ x, x ∈ ls → x.length = 32) (hl_tg : tg.length = 32) (hr_ps : (rd vp 64 ps.length cp (ps.flatMap bv)).holds w) (ho_ps : ∀ x, x ∈ ps → x.length = 64) (hl_tp : tp.length = 32) (hh5 : 1 ≤ h ∧ h ≤ 5) (hm : ¬ min ls.length 32 ≤ 2 ^ h) : Calls Tryd.prog 4 #[.agg (bv k).toArray, .agg ([[.int .i64 ((h : Nat) : Int)], [v]] : List (List Value)).flatten.toArray, .agg ([[.int .i64 z], bv tg, [vp], bv tp] : List (List Value)).flatten.toArray] w fun e w' => e = .returned (.bool true) ∧ Mem w [] w' [] := by
  have hll : (ls.take (min ls.length 32)).length = min ls.length 32 := by rw [List.length_take]; omega
  have hoL : OkTs (ls.take (min ls.length 32)) := fun x hx => ho_ls x (List.mem_of_mem_take hx)
  have hM : Mem w [] w [rd v 32 ls.length c (ls.flatMap bv), rd vp 64 ps.length cp (ps.flatMap bv), glb 0] := Mem.startR w (fun g hg => by
    simp only [List.mem_cons, List.not_mem_nil, or_false] at hg
    rcases hg with rfl | rfl | rfl
    · exact ⟨hr_ls, rfl⟩
    · exact ⟨hr_ps, rfl⟩
    · exact ⟨hG, rfl⟩)
  refine f_enter 171 Tryd.func4 rfl rfl rfl ?_
  intro a hE
  replace hE : Env a 171 [(0, _), (1, _), (2, _)] := hE
  refine wp_seq_k (fun K1 hK1 => ?_)
  refine wp_plain [false, false, false, true] rfl rfl ?_
  refine s_box (ss := [bv k]) [32] hE hM rfl (by simp [Value.cells]) (by simp [*]) rfl ?_; clear hE a; intro a b3 w1 hE hM'
  clear hM; have hM := hM'; clear hM'
  refine s_box (ss := [[.int .i64 ((h : Nat) : Int)], [v]]) [1, 1] hE hM rfl rfl (by simp [*]) rfl ?_; clear hE a; intro a b4 w2 hE hM'
  clear hM; have hM := hM'; clear hM'
  refine s_box (ss := [[.int .i64 z], bv tg, [vp], bv tp]) [1, 32, 1, 32] hE hM rfl rfl (by simp [*]) rfl ?_; clear hE a; intro a b5 w3 hE hM'
  clear hM; have hM := hM'; clear hM'
  refine s_assign hE rfl rfl ?_; clear hE a; intro a hE
  refine q_nil ?_
  replace hE : Env a 171 [(3, _), (4, _), (5, _), (6, _)] := hE.sel [3, 4, 5, 6] rfl
  refine hK1 _ _ ?_
  refine wp_seq_k (fun K2 hK2 => ?_)
  refine wp_seq_k (fun K3 hK3 => ?_)
  refine wp_plain [true, true, true, true, true, true, true, true] rfl rfl ?_
  refine s_fieldAddr hE rfl fo26_0 rfl ?_; clear hE a; intro a hE
  refine s_load1 hE rfl (hM.get 1 rfl) rfl one3 (by intro X h; cases h) rfl ?_; clear hE a; intro a hE
  refine s_bin hE rfl rfl bin_gtr rfl ?_; clear hE a; intro a hE
  refine s_move hE rfl rfl ?_; clear hE a; intro a hE
  replace hE := hE.cast 19 rfl (show _ = Value.bool false from (congrArg Value.bool (decide_eq_false (by omega))))
  refine g_no (b := false) hE rfl rfl rfl ?_; clear hE a; intro a hE
  refine g_no (b := false) hE rfl rfl rfl ?_; clear hE a; intro a hE
  refine g_no (b := false) hE rfl rfl rfl ?_; clear hE a; intro a hE
  refine s_pickf hE rfl rfl rfl ?_; clear hE a; intro a hE
  refine q_nil ?_
  replace hE : Env a 171 [(3, _), (4, _), (5, _), (6, _), (23, _)] := hE.sel [3, 4, 5, 6, 23] rfl
  refine hK3 _ _ ?_
  refine wp_cond_false (hE.eval rfl) ?_
  refine wp_skip ?_
  refine hK2 _ _ ?_
  refine wp_seq_k (fun K4 hK4 => ?_)
  refine wp_drawnM hM (by kernel_rfl) (fun _ => False) [(0, true), (1, true), (2, true), (3, true), (4, true), (5, true), (6, true), (7, true), (8, true), (9, true), (10, false), (11, true), (12, true), (13, true), (14, true), (15, true)] [(10, [(11, 10), (12, 11), (13, 11), (14, 10), (15, 10)])] (by kernel_rfl) rfl ?_
  intro w4 hM' hww4; clear hM; have hM := hM'; clear hM'
  refine s_loadN hE rfl (hM.get 2 rfl) row23 rfl (by intro X h; cases h; simp) rfl ?_; clear hE a; intro a hE
  refine s_fieldAddr hE rfl fo26_0 rfl ?_; clear hE a; intro a hE
  refine s_load1 hE rfl (hM.get 1 rfl) rfl one3 (by intro X h; cases h; simp) rfl ?_; clear hE a; intro a hE
  refine s_fieldAddr hE rfl fo26_1 rfl ?_; clear hE a; intro a hE
  refine s_load1 hE rfl (hM.get 1 rfl) rfl one24 (by intro X h; cases h; simp) rfl ?_; clear hE a; intro a hE
  refine s_fieldAddr hE rfl fo26_1 rfl ?_; clear hE a; intro a hE
  refine s_load1 hE rfl (hM.get 1 rfl) rfl one24 (by intro X h; cases h; simp) rfl ?_; clear hE a; intro a hE
  refine s_len hE rfl Tryd.underlying24 (rd_slice (hM.get 3 rfl)) rfl ?_; clear hE a; intro a hE
  refine s_min hE rfl rfl rfl ?_; clear hE a; intro a hE
  replace hE := hE.cast 34 rfl (show _ = Value.int .i64 ((min ls.length 32 : Nat) : Int) from congrArg (Value.int .i64) (by split <;> omega))
  have hcap35 := rd_len (hM.get 3 rfl)
  refine s_slice (l := 0) (h := min ls.length 32) (mx' := c) hE rfl (hM.get 3 rfl) slt24 rfl ⟨_, rfl⟩ rfl (by simp) (Nat.zero_le _) (by first | omega | (simp; omega) | decide +kernel) (by first | omega | (simp; omega) | decide +kernel) (Nat.le_refl _) rfl ?_; clear hE a; intro a v35 hE hr35 hvb35
  replace hr35 := rd_takeR (f := bv) (ls := ls) (fun x hx => ((bv_length _).trans (ho_ls x hx))) (by first | omega | (simp; omega) | decide +kernel) hr35
  replace hM := hM.addPart 3 rfl hr35 hvb35; clear hr35
  refine s_call hE rfl Tryd.call10 (tnew_no2 k h _ (ls.take (min ls.length 32)) _ _ hl_k (hM.get 0 rfl) (ok_take ho_ls) (by omega) (by rw [hll]; exact hm)) rfl ?_
  rintro e w5 ⟨rfl, hN⟩
  refine ⟨_, rfl, hN.sta0 _, ?_⟩; clear hE a; intro a hE
  replace hM : Mem _ _ w5 [_, _, _, _, _, _, _] := hM.call0 hN trivial; clear hN
  refine s_move hE rfl rfl ?_; clear hE a; intro a hE
  refine s_extract hE rfl rfl rfl ?_; clear hE a; intro a hE
  refine s_extract hE rfl rfl rfl ?_; clear hE a; intro a hE
  refine s_assign hE rfl rfl ?_; clear hE a; intro a hE
  refine s_assign hE rfl rfl ?_; clear hE a; intro a hE
  refine q_nil ?_
  replace hE : Env a 171 [(3, _), (4, _), (5, _), (6, _), (7, _), (8, _), (23, _)] := hE.sel [3, 4, 5, 6, 7, 8, 23] rfl
  refine hK4 _ _ ?_
  refine wp_seq_k (fun K5 hK5 => ?_)
  refine wp_seq_k (fun K6 hK6 => ?_)
  refine wp_plain [true, true] rfl rfl ?_
  refine s_move hE rfl rfl ?_; clear hE a; intro a hE
  refine s_bin hE rfl rfl bin_neq rfl ?_; clear hE a; intro a hE
  replace hE := hE.cast 40 rfl (show _ = Value.bool true from (congrArg Value.bool (by decide)))
  refine q_nil ?_
  replace hE : Env a 171 [(3, _), (4, _), (5, _), (6, _), (7, _), (23, _), (40, _)] := hE.sel [3, 4, 5, 6, 7, 23, 40] rfl
  refine hK6 _ _ ?_
  refine wp_cond_true (hE.eval rfl) ?_
  refine wp_seq_k (fun K7 hK7 => ?_)
  refine wp_plain [false, true] rfl rfl ?_
  refine s_call hE rfl Tryd.call9 (works_c  _ (hM.get 6 rfl)) rfl ?_
  rintro e w6 ⟨rfl, hN⟩
  refine ⟨_, rfl, trivial, ?_⟩; clear hE a; intro a hE
  replace hM : Mem _ _ w6 [_, _, _, _, _, _, _] := hM.call0 hN trivial; clear hN
  refine s_assign hE rfl rfl ?_; clear hE a; intro a hE
  refine q_nil ?_
  replace hE : Env a 171 [(3, _), (4, _), (5, _), (6, _), (7, _), (23, _), (40, _)] := hE.sel [3, 4, 5, 6, 7, 23, 40] rfl
  refine hK7 _ _ ?_
  refine wp_ret ?_
  refine q_then_r ?_
  refine f_ret1 hE rfl rfl ?_
  exact ⟨(by first | rfl | (simp; done)), hM.pick [] rfl⟩
set_option maxRecDepth 20000 in
set_option maxHeartbeats 2000000 in
theorem treeProves_out (k : List UInt8) (h : Nat) (v : Value) (ls : List (List UInt8)) (c : Nat) (z : Int) (tg : List UInt8) (vp : Value) (ps : List (List UInt8)) (cp : Nat) (tp : List UInt8) (w : World) (hG : (glb 0).holds w) (hl_k : k.length = 32) (hr_ls : (rd v 32 ls.length c (ls.flatMap bv)).holds w) (ho_ls : ∀ x, x ∈ ls → x.length = 32) (hl_tg : tg.length = 32) (hr_ps : (rd vp 64 ps.length cp (ps.flatMap bv)).holds w) (ho_ps : ∀ x, x ∈ ps → x.length = 64) (hl_tp : tp.length = 32) (hh5 : 1 ≤ h ∧ h ≤ 5) (hm : min ls.length 32 ≤ 2 ^ h) (hz : ¬ inN 0 (2 ^ h) z) : Calls Tryd.prog 4 #[.agg (bv k).toArray, .agg ([[.int .i64 ((h : Nat) : Int)], [v]] : List (List Value)).flatten.toArray, .agg ([[.int .i64 z], bv tg, [vp], bv tp] : List (List Value)).flatten.toArray] w fun e w' => e = .returned (.bool true) ∧ Mem w [] w' [] := by
  have hh : 1 ≤ h ∧ h ≤ 12 := by omega
  have hpw := two_pow_le hh
  have hpw1 := hpw.1
  have hpw2 := hpw.2
  have hll : (ls.take (min ls.length 32)).length = min ls.length 32 := by rw [List.length_take]; omega
  have hoL : OkTs (ls.take (min ls.length 32)) := fun x hx => ho_ls x (List.mem_of_mem_take hx)
  have hM : Mem w [] w [rd v 32 ls.length c (ls.flatMap bv), rd vp 64 ps.length cp (ps.flatMap bv), glb 0] := Mem.startR w (fun g hg => by
    simp only [List.mem_cons, List.not_mem_nil, or_false] at hg
    rcases hg with rfl | rfl | rfl
    · exact ⟨hr_ls, rfl⟩
    · exact ⟨hr_ps, rfl⟩
    · exact ⟨hG, rfl⟩)
  refine f_enter 171 Tryd.func4 rfl rfl rfl ?_
  intro a hE
  replace hE : Env a 171 [(0, _), (1, _), (2, _)] := hE
  refine wp_seq_k (fun K1 hK1 => ?_)
  refine wp_plain [false, false, false, true] rfl rfl ?_
  refine s_box (ss := [bv k]) [32] hE hM rfl (by simp [Value.cells]) (by simp [*]) rfl ?_; clear hE a; intro a b3 w1 hE hM'
  clear hM; have hM := hM'; clear hM'
  refine s_box (ss := [[.int .i64 ((h : Nat) : Int)], [v]]) [1, 1] hE hM rfl rfl (by simp [*]) rfl ?_; clear hE a; intro a b4 w2 hE hM'
  clear hM; have hM := hM'; clear hM'
  refine s_box (ss := [[.int .i64 z], bv tg, [vp], bv tp]) [1, 32, 1, 32] hE hM rfl rfl (by simp [*]) rfl ?_; clear hE a; intro a b5 w3 hE hM'
  clear hM; have hM := hM'; clear hM'
  refine s_assign hE rfl rfl ?_; clear hE a; intro a hE
  refine q_nil ?_
  replace hE : Env a 171 [(3, _), (4, _), (5, _), (6, _)] := hE.sel [3, 4, 5, 6] rfl
  refine hK1 _ _ ?_
  refine wp_seq_k (fun K2 hK2 => ?_)
  refine wp_seq_k (fun K3 hK3 => ?_)
  refine wp_plain [true, true, true, true, true, true, true, true] rfl rfl ?_
  refine s_fieldAddr hE rfl fo26_0 rfl ?_; clear hE a; intro a hE
  refine s_load1 hE rfl (hM.get 1 rfl) rfl one3 (by intro X h; cases h) rfl ?_; clear hE a; intro a hE
  refine s_bin hE rfl rfl bin_gtr rfl ?_; clear hE a; intro a hE
  refine s_move hE rfl rfl ?_; clear hE a; intro a hE
  replace hE := hE.cast 19 rfl (show _ = Value.bool false from (congrArg Value.bool (decide_eq_false (by omega))))
  refine g_no (b := false) hE rfl rfl rfl ?_; clear hE a; intro a hE
  refine g_no (b := false) hE rfl rfl rfl ?_; clear hE a; intro a hE
  refine g_no (b := false) hE rfl rfl rfl ?_; clear hE a; intro a hE
  refine s_pickf hE rfl rfl rfl ?_; clear hE a; intro a hE
  refine q_nil ?_
  replace hE : Env a 171 [(3, _), (4, _), (5, _), (6, _), (23, _)] := hE.sel [3, 4, 5, 6, 23] rfl
  refine hK3 _ _ ?_
  refine wp_cond_false (hE.eval rfl) ?_
  refine wp_skip ?_
  refine hK2 _ _ ?_
  refine wp_seq_k (fun K4 hK4 => ?_)
  refine wp_drawnM hM (by kernel_rfl) (fun _ => False) [(0, true), (1, true), (2, true), (3, true), (4, true), (5, true), (6, true), (7, true), (8, true), (9, true), (10, false), (11, true), (12, true), (13, true), (14, true), (15, true)] [(10, [(11, 10), (12, 11), (13, 11), (14, 10), (15, 10)])] (by kernel_rfl) rfl ?_
  intro w4 hM' hww4; clear hM; have hM := hM'; clear hM'
  refine s_loadN hE rfl (hM.get 2 rfl) row23 rfl (by intro X h; cases h; simp) rfl ?_; clear hE a; intro a hE
  refine s_fieldAddr hE rfl fo26_0 rfl ?_; clear hE a; intro a hE
  refine s_load1 hE rfl (hM.get 1 rfl) rfl one3 (by intro X h; cases h; simp) rfl ?_; clear hE a; intro a hE
  refine s_fieldAddr hE rfl fo26_1 rfl ?_; clear hE a; intro a hE
  refine s_load1 hE rfl (hM.get 1 rfl) rfl one24 (by intro X h; cases h; simp) rfl ?_; clear hE a; intro a hE
  refine s_fieldAddr hE rfl fo26_1 rfl ?_; clear hE a; intro a hE
  refine s_load1 hE rfl (hM.get 1 rfl) rfl one24 (by intro X h; cases h; simp) rfl ?_; clear hE a; intro a hE
  refine s_len hE rfl Tryd.underlying24 (rd_slice (hM.get 3 rfl)) rfl ?_; clear hE a; intro a hE
  refine s_min hE rfl rfl rfl ?_; clear hE a; intro a hE
  replace hE := hE.cast 34 rfl (show _ = Value.int .i64 ((min ls.length 32 : Nat) : Int) from congrArg (Value.int .i64) (by split <;> omega))
  have hcap35 := rd_len (hM.get 3 rfl)
  refine s_slice (l := 0) (h := min ls.length 32) (mx' := c) hE rfl (hM.get 3 rfl) slt24 rfl ⟨_, rfl⟩ rfl (by simp) (Nat.zero_le _) (by first | omega | (simp; omega) | decide +kernel) (by first | omega | (simp; omega) | decide +kernel) (Nat.le_refl _) rfl ?_; clear hE a; intro a v35 hE hr35 hvb35
  replace hr35 := rd_takeR (f := bv) (ls := ls) (fun x hx => ((bv_length _).trans (ho_ls x hx))) (by first | omega | (simp; omega) | decide +kernel) hr35
  replace hM := hM.addPart 3 rfl hr35 hvb35; clear hr35
  refine s_call hE rfl Tryd.call10 (tnew_c k h _ (ls.take (min ls.length 32)) _ _ (hM.get 6 rfl) (hM.get 0 rfl) hl_k (ok_take ho_ls) (by first | decide | omega) (by rw [hll]; exact hm)) rfl ?_
  rintro e w5 ⟨b36, u36, rfl, hN⟩
  refine ⟨_, rfl, hN.sta0 _, ?_⟩; clear hE a; intro a hE
  replace hM : Mem _ _ w5 [_, _, _, _, _, _, _, _, _] := hM.call0 hN ⟨rfl, rfl, trivial⟩; clear hN
  refine s_move hE rfl rfl ?_; clear hE a; intro a hE
  refine s_extract hE rfl rfl rfl ?_; clear hE a; intro a hE
  refine s_extract hE rfl rfl rfl ?_; clear hE a; intro a hE
  refine s_assign hE rfl rfl ?_; clear hE a; intro a hE
  refine s_assign hE rfl rfl ?_; clear hE a; intro a hE
  refine q_nil ?_
  replace hE : Env a 171 [(3, _), (4, _), (5, _), (6, _), (7, _), (8, _), (23, _)] := hE.sel [3, 4, 5, 6, 7, 8, 23] rfl
  refine hK4 _ _ ?_
  refine wp_seq_k (fun K5 hK5 => ?_)
  refine wp_seq_k (fun K6 hK6 => ?_)
  refine wp_plain [true, true] rfl rfl ?_
  refine s_move hE rfl rfl ?_; clear hE a; intro a hE
  refine s_bin hE rfl rfl bin_neq rfl ?_; clear hE a; intro a hE
  replace hE := hE.cast 40 rfl (show _ = Value.bool false from (congrArg Value.bool (by decide)))
  refine q_nil ?_
  replace hE : Env a 171 [(3, _), (4, _), (5, _), (6, _), (7, _), (23, _), (40, _)] := hE.sel [3, 4, 5, 6, 7, 23, 40] rfl
  refine hK6 _ _ ?_
  refine wp_cond_false (hE.eval rfl) ?_
  refine wp_skip ?_
  refine hK5 _ _ ?_
  refine wp_seq_k (fun K7 hK7 => ?_)
  refine wp_plain [true, true, true, false, true, true, true, true, true] rfl rfl ?_
  refine s_move hE rfl rfl ?_; clear hE a; intro a hE
  refine s_fieldAddr hE rfl fo46_0 rfl ?_; clear hE a; intro a hE
  refine s_load1 hE rfl (hM.get 3 rfl) rfl one3 (by intro X h; cases h) rfl ?_; clear hE a; intro a hE
  obtain ⟨cs1, hs1⟩ := own_rd (hM.get 1 rfl)
  refine s_call hE rfl Tryd.call14 (tproofI_c b36 h k u36 (allT k (2 ^ h) (padL (2 ^ h) (ls.take (min ls.length 32)))) cs1 z _ (hM.get 0 rfl) hs1 hl_k (OkTs.all (OkTs.pad (ok_take ho_ls))) (by first | decide | omega) (allT_len (Nat.le_of_eq (padL_length (by rw [hll]; exact hm))))) rfl ?_
  rintro e w6 ⟨v46, rfl, hN⟩
  refine ⟨_, rfl, trivial, ?_⟩; clear hE a; intro a hE
  replace hM : Mem _ _ w6 [_, _, _, _, _, _, _, _, _, _] := hM.call0 hN ⟨rfl, trivial⟩; clear hN
  replace hM := Mem.ownRowsEq (f := bv) (ls := proofZ (allT k (2 ^ h) (padL (2 ^ h) (ls.take (min ls.length 32)))) h z) (ms := ([] : List (List UInt8))) hM (proofZ_out hz)
  refine s_move hE rfl rfl ?_; clear hE a; intro a hE
  refine s_extract hE rfl rfl rfl ?_; clear hE a; intro a hE
  refine s_extract hE rfl rfl rfl ?_; clear hE a; intro a hE
  refine s_assign hE rfl rfl ?_; clear hE a; intro a hE
  refine s_assign hE rfl rfl ?_; clear hE a; intro a hE
  refine q_nil ?_
  replace hE : Env a 171 [(3, _), (4, _), (5, _), (6, _), (7, _), (9, _), (10, _), (23, _), (40, _)] := hE.sel [3, 4, 5, 6, 7, 9, 10, 23, 40] rfl
  refine hK7 _ _ ?_
  refine wp_seq_k (fun K8 hK8 => ?_)
  refine wp_seq_k (fun K9 hK9 => ?_)
  refine wp_plain [true, true] rfl rfl ?_
  refine s_move hE rfl rfl ?_; clear hE a; intro a hE
  refine s_bin hE rfl rfl bin_neq rfl ?_; clear hE a; intro a hE
  refine q_nil ?_
  replace hE : Env a 171 [(3, _), (4, _), (5, _), (6, _), (7, _), (9, _), (23, _), (40, _), (50, _)] := hE.sel [3, 4, 5, 6, 7, 9, 23, 40, 50] rfl
  refine hK9 _ _ ?_
  replace hE := hE.cast 50 rfl (show _ = Value.bool true from (congrArg Value.bool (by rw [eZ_out hz]; rfl)))
  refine wp_cond_true (hE.eval rfl) ?_
  refine wp_seq_k (fun K10 hK10 => ?_)
  refine wp_plain [true, true, true, true, false, true, true] rfl rfl ?_
  refine s_move hE rfl rfl ?_; clear hE a; intro a hE
  refine s_len hE rfl Tryd.underlying44 (own_slice (hM.get 0 rfl)) rfl ?_; clear hE a; intro a hE
  refine s_bin hE rfl rfl bin_eql rfl ?_; clear hE a; intro a hE
  refine s_move hE rfl rfl ?_; clear hE a; intro a hE
  replace hE := hE.cast 54 rfl (show _ = Value.bool true from (congrArg Value.bool (rfl)))
  refine g_yes hE rfl rfl ?_
  refine s_call hE rfl Tryd.call9 (works_c  _ (hM.get 9 rfl)) rfl ?_
  rintro e w7 ⟨rfl, hN⟩
  refine ⟨_, rfl, trivial, ?_⟩; clear hE a; intro a hE
  replace hM : Mem _ _ w7 [_, _, _, _, _, _, _, _, _, _] := hM.call0 hN trivial; clear hN
  refine s_pickt hE rfl rfl rfl ?_; clear hE a; intro a hE
  refine s_assign hE rfl rfl ?_; clear hE a; intro a hE
  refine q_nil ?_
  replace hE : Env a 171 [(3, _), (4, _), (5, _), (6, _), (7, _), (9, _), (23, _), (40, _), (50, _)] := hE.sel [3, 4, 5, 6, 7, 9, 23, 40, 50] rfl
  refine hK10 _ _ ?_
  refine wp_ret ?_
  refine q_then_r ?_
  refine f_ret1 hE rfl rfl ?_
  exact ⟨(by first | rfl | (simp; done)), hM.pick [] rfl⟩
set_option maxRecDepth 20000 in
set_option maxHeartbeats 2000000 in
theorem treeProves_in (k : List UInt8) (h : Nat) (v : Value) (ls : List (List UInt8)) (c : Nat) (q : Nat) (tg : List UInt8) (vp : Value) (ps : List (List UInt8)) (cp : Nat) (tp : List UInt8) (w : World) (hG : (glb 0).holds w) (hl_k : k.length = 32) (hr_ls : (rd v 32 ls.length c (ls.flatMap bv)).holds w) (ho_ls : ∀ x, x ∈ ls → x.length = 32) (hl_tg : tg.length = 32) (hr_ps : (rd vp 64 ps.length cp (ps.flatMap bv)).holds w) (ho_ps : ∀ x, x ∈ ps → x.length = 64) (hl_tp : tp.length = 32) (hh5 : 1 ≤ h ∧ h ≤ 5) (hm : min ls.length 32 ≤ 2 ^ h) (hq : q < 2 ^ h) : Calls Tryd.prog 4 #[.agg (bv k).toArray, .agg ([[.int .i64 ((h : Nat) : Int)], [v]] : List (List Value)).flatten.toArray, .agg ([[.int .i64 ((q : Nat) : Int)], bv tg, [vp], bv tp] : List (List Value)).flatten.toArray] w fun e w' => e = .returned (.bool true) ∧ Mem w [] w' [] := by
  have hh : 1 ≤ h ∧ h ≤ 12 := by omega
  have hpw := two_pow_le hh
  have hpw1 := hpw.1
  have hpw2 := hpw.2
  have hll : (ls.take (min ls.length 32)).length = min ls.length 32 := by rw [List.length_take]; omega
  have hoL : OkTs (ls.take (min ls.length 32)) := fun x hx => ho_ls x (List.mem_of_mem_take hx)
  have hM : Mem w [] w [rd v 32 ls.length c (ls.flatMap bv), rd vp 64 ps.length cp (ps.flatMap bv), glb 0] := Mem.startR w (fun g hg => by
    simp only [List.mem_cons, List.not_mem_nil, or_false] at hg
    rcases hg with rfl | rfl | rfl
    · exact ⟨hr_ls, rfl⟩
    · exact ⟨hr_ps, rfl⟩
    · exact ⟨hG, rfl⟩)
  refine f_enter 171 Tryd.func4 rfl rfl rfl ?_
  intro a hE
  replace hE : Env a 171 [(0, _), (1, _), (2, _)] := hE
  refine wp_seq_k (fun K1 hK1 => ?_)
  refine wp_plain [false, false, false, true] rfl rfl ?_
  refine s_box (ss := [bv k]) [32] hE hM rfl (by simp [Value.cells]) (by simp [*]) rfl ?_; clear hE a; intro a b3 w1 hE hM'
  clear hM; have hM := hM'; clear hM'
  refine s_box (ss := [[.int .i64 ((h : Nat) : Int)], [v]]) [1, 1] hE hM rfl rfl (by simp [*]) rfl ?_; clear hE a; intro a b4 w2 hE hM'
  clear hM; have hM := hM'; clear hM'
  refine s_box (ss := [[.int .i64 ((q : Nat) : Int)], bv tg, [vp], bv tp]) [1, 32, 1, 32] hE hM rfl rfl (by simp [*]) rfl ?_; clear hE a; intro a b5 w3 hE hM'
  clear hM; have hM := hM'; clear hM'
  refine s_assign hE rfl rfl ?_; clear hE a; intro a hE
  refine q_nil ?_
  replace hE : Env a 171 [(3, _), (4, _), (5, _), (6, _)] := hE.sel [3, 4, 5, 6] rfl
  refine hK1 _ _ ?_
  refine wp_seq_k (fun K2 hK2 => ?_)
  refine wp_seq_k (fun K3 hK3 => ?_)
  refine wp_plain [true, true, true, true, true, true, true, true] rfl rfl ?_
  refine s_fieldAddr hE rfl fo26_0 rfl ?_; clear hE a; intro a hE
  refine s_load1 hE rfl (hM.get 1 rfl) rfl one3 (by intro X h; cases h) rfl ?_; clear hE a; intro a hE
  refine s_bin hE rfl rfl bin_gtr rfl ?_; clear hE a; intro a hE
  refine s_move hE rfl rfl ?_; clear hE a; intro a hE
  replace hE := hE.cast 19 rfl (show _ = Value.bool false from (congrArg Value.bool (decide_eq_false (by omega))))
  refine g_no (b := false) hE rfl rfl rfl ?_; clear hE a; intro a hE
  refine g_no (b := false) hE rfl rfl rfl ?_; clear hE a; intro a hE
  refine g_no (b := false) hE rfl rfl rfl ?_; clear hE a; intro a hE
  refine s_pickf hE rfl rfl rfl ?_; clear hE a; intro a hE
  refine q_nil ?_
  replace hE : Env a 171 [(3, _), (4, _), (5, _), (6, _), (23, _)] := hE.sel [3, 4, 5, 6, 23] rfl
  refine hK3 _ _ ?_
  refine wp_cond_false (hE.eval rfl) ?_
  refine wp_skip ?_
  refine hK2 _ _ ?_
  refine wp_seq_k (fun K4 hK4 => ?_)
  refine wp_drawnM hM (by kernel_rfl) (fun _ => False) [(0, true), (1, true), (2, true), (3, true), (4, true), (5, true), (6, true), (7, true), (8, true), (9, true), (10, false), (11, true), (12, true), (13, true), (14, true), (15, true)] [(10, [(11, 10), (12, 11), (13, 11), (14, 10), (15, 10)])] (by kernel_rfl) rfl ?_
  intro w4 hM' hww4; clear hM; have hM := hM'; clear hM'
  refine s_loadN hE rfl (hM.get 2 rfl) row23 rfl (by intro X h; cases h; simp) rfl ?_; clear hE a; intro a hE
  refine s_fieldAddr hE rfl fo26_0 rfl ?_; clear hE a; intro a hE
  refine s_load1 hE rfl (hM.get 1 rfl) rfl one3 (by intro X h; cases h; simp) rfl ?_; clear hE a; intro a hE
  refine s_fieldAddr hE rfl fo26_1 rfl ?_; clear hE a; intro a hE
  refine s_load1 hE rfl (hM.get 1 rfl) rfl one24 (by intro X h; cases h; simp) rfl ?_; clear hE a; intro a hE
  refine s_fieldAddr hE rfl fo26_1 rfl ?_; clear hE a; intro a hE
  refine s_load1 hE rfl (hM.get 1 rfl) rfl one24 (by intro X h; cases h; simp) rfl ?_; clear hE a; intro a hE
  refine s_len hE rfl Tryd.underlying24 (rd_slice (hM.get 3 rfl)) rfl ?_; clear hE a; intro a hE
  refine s_min hE rfl rfl rfl ?_; clear hE a; intro a hE
  replace hE := hE.cast 34 rfl (show _ = Value.int .i64 ((min ls.length 32 : Nat) : Int) from congrArg (Value.int .i64) (by split <;> omega))
  have hcap35 := rd_len (hM.get 3 rfl)
  refine s_slice (l := 0) (h := min ls.length 32) (mx' := c) hE rfl (hM.get 3 rfl) slt24 rfl ⟨_, rfl⟩ rfl (by simp) (Nat.zero_le _) (by first | omega | (simp; omega) | decide +kernel) (by first | omega | (simp; omega) | decide +kernel) (Nat.le_refl _) rfl ?_; clear hE a; intro a v35 hE hr35 hvb35
  replace hr35 := rd_takeR (f := bv) (ls := ls) (fun x hx => ((bv_length _).trans (ho_ls x hx))) (by first | omega | (simp; omega) | decide +kernel) hr35
  replace hM := hM.addPart 3 rfl hr35 hvb35; clear hr35
  refine s_call hE rfl Tryd.call10 (tnew_c k h _ (ls.take (min ls.length 32)) _ _ (hM.get 6 rfl) (hM.get 0 rfl) hl_k (ok_take ho_ls) (by first | decide | omega) (by rw [hll]; exact hm)) rfl ?_
  rintro e w5 ⟨b36, u36, rfl, hN⟩
  refine ⟨_, rfl, hN.sta0 _, ?_⟩; clear hE a; intro a hE
  replace hM : Mem _ _ w5 [_, _, _, _, _, _, _, _, _] := hM.call0 hN ⟨rfl, rfl, trivial⟩; clear hN
  refine s_move hE rfl rfl ?_; clear hE a; intro a hE
  refine s_extract hE rfl rfl rfl ?_; clear hE a; intro a hE
  refine s_extract hE rfl rfl rfl ?_; clear hE a; intro a hE
  refine s_assign hE rfl rfl ?_; clear hE a; intro a hE
  refine s_assign hE rfl rfl ?_; clear hE a; intro a hE
  refine q_nil ?_
  replace hE : Env a 171 [(3, _), (4, _), (5, _), (6, _), (7, _), (8, _), (23, _)] := hE.sel [3, 4, 5, 6, 7, 8, 23] rfl
  refine hK4 _ _ ?_
  refine wp_seq_k (fun K5 hK5 => ?_)
  refine wp_seq_k (fun K6 hK6 => ?_)
  refine wp_plain [true, true] rfl rfl ?_
  refine s_move hE rfl rfl ?_; clear hE a; intro a hE
  refine s_bin hE rfl rfl bin_neq rfl ?_; clear hE a; intro a hE
  replace hE := hE.cast 40 rfl (show _ = Value.bool false from (congrArg Value.bool (by decide)))
  refine q_nil ?_
  replace hE : Env a 171 [(3, _), (4, _), (5, _), (6, _), (7, _), (23, _), (40, _)] := hE.sel [3, 4, 5, 6, 7, 23, 40] rfl
  refine hK6 _ _ ?_
  refine wp_cond_false (hE.eval rfl) ?_
  refine wp_skip ?_
  refine hK5 _ _ ?_
  refine wp_seq_k (fun K7 hK7 => ?_)
  refine wp_plain [true, true, true, false, true, true, true, true, true] rfl rfl ?_
  refine s_move hE rfl rfl ?_; clear hE a; intro a hE
  refine s_fieldAddr hE rfl fo46_0 rfl ?_; clear hE a; intro a hE
  refine s_load1 hE rfl (hM.get 3 rfl) rfl one3 (by intro X h; cases h) rfl ?_; clear hE a; intro a hE
  obtain ⟨cs1, hs1⟩ := own_rd (hM.get 1 rfl)
  refine s_call hE rfl Tryd.call14 (tproofI_c b36 h k u36 (allT k (2 ^ h) (padL (2 ^ h) (ls.take (min ls.length 32)))) cs1 ((q : Nat) : Int) _ (hM.get 0 rfl) hs1 hl_k (OkTs.all (OkTs.pad (ok_take ho_ls))) (by first | decide | omega) (allT_len (Nat.le_of_eq (padL_length (by rw [hll]; exact hm))))) rfl ?_
  rintro e w6 ⟨v46, rfl, hN⟩
  refine ⟨_, rfl, trivial, ?_⟩; clear hE a; intro a hE
  replace hM : Mem _ _ w6 [_, _, _, _, _, _, _, _, _, _] := hM.call0 hN ⟨rfl, trivial⟩; clear hN
  refine s_move hE rfl rfl ?_; clear hE a; intro a hE
  refine s_extract hE rfl rfl rfl ?_; clear hE a; intro a hE
  refine s_extract hE rfl rfl rfl ?_; clear hE a; intro a hE
  refine s_assign hE rfl rfl ?_; clear hE a; intro a hE
  refine s_assign hE rfl rfl ?_; clear hE a; intro a hE
  refine q_nil ?_
  replace hE : Env a 171 [(3, _), (4, _), (5, _), (6, _), (7, _), (9, _), (10, _), (23, _), (40, _)] := hE.sel [3, 4, 5, 6, 7, 9, 10, 23, 40] rfl
  refine hK7 _ _ ?_
  refine wp_seq_k (fun K8 hK8 => ?_)
  refine wp_seq_k (fun K9 hK9 => ?_)
  refine wp_plain [true, true] rfl rfl ?_
  refine s_move hE rfl rfl ?_; clear hE a; intro a hE
  refine s_bin hE rfl rfl bin_neq rfl ?_; clear hE a; intro a hE
  refine q_nil ?_
  replace hE : Env a 171 [(3, _), (4, _), (5, _), (6, _), (7, _), (9, _), (23, _), (40, _), (50, _)] := hE.sel [3, 4, 5, 6, 7, 9, 23, 40, 50] rfl
  refine hK9 _ _ ?_
  replace hE := hE.cast 50 rfl (show _ = Value.bool false from (congrArg Value.bool (by rw [eZ_in (by omega)]; rfl)))
  refine wp_cond_false (hE.eval rfl) ?_
  refine wp_skip ?_
  refine hK8 _ _ ?_
  refine wp_seq_k (fun K10 hK10 => ?_)
  refine wp_plain [true, true, true, true, true] rfl rfl ?_
  refine s_fieldAddr hE rfl fo26_0 rfl ?_; clear hE a; intro a hE
  refine s_load1 hE rfl (hM.get 5 rfl) rfl one3 (by intro X h; cases h) rfl ?_; clear hE a; intro a hE
  refine s_conv hE rfl (cnv_int Tryd.underlying3 Tryd.underlying33 (wrap_u64 (by omega) (by omega))) rfl ?_; clear hE a; intro a hE
  refine s_bin hE rfl rfl (bin_one_shl (by omega)) rfl ?_; clear hE a; intro a hE
  refine s_assign hE rfl rfl ?_; clear hE a; intro a hE
  refine q_nil ?_
  replace hE : Env a 171 [(3, _), (4, _), (5, _), (6, _), (7, _), (9, _), (11, _), (23, _), (40, _), (50, _)] := hE.sel [3, 4, 5, 6, 7, 9, 11, 23, 40, 50] rfl
  refine hK10 _ _ ?_
  refine wp_seq_k (fun K11 hK11 => ?_)
  refine wp_plain [true, true, true, true, true, false, true, true, true, false, false, true] rfl rfl ?_
  refine s_move hE rfl rfl ?_; clear hE a; intro a hE
  refine s_move hE rfl rfl ?_; clear hE a; intro a hE
  refine s_fieldAddr hE rfl fo46_0 rfl ?_; clear hE a; intro a hE
  refine s_load1 hE rfl (hM.get 4 rfl) rfl one3 (by intro X h; cases h) rfl ?_; clear hE a; intro a hE
  refine s_bin hE rfl rfl (show Bin _ _ _ _ _ (.int .i64 (((2 ^ h) + q : Nat) : Int)) from bin_add (by rw [wrap_i64 (by omega) (by omega)]; omega)) rfl ?_; clear hE a; intro a hE
  obtain ⟨cs2, hs2⟩ := own_rd (hM.get 2 rfl)
  refine s_call hE rfl Tryd.call13 (ttagI_c b36 h k u36 (allT k (2 ^ h) (padL (2 ^ h) (ls.take (min ls.length 32)))) cs2 (((2 ^ h) + q : Nat) : Int) _ (hM.get 1 rfl) hs2 hl_k (OkTs.all (OkTs.pad (ok_take ho_ls))) (by first | decide | omega) (allT_len (Nat.le_of_eq (padL_length (by rw [hll]; exact hm))))) rfl ?_
  rintro e w7 ⟨rfl, hN⟩
  refine ⟨_, rfl, trivial, ?_⟩; clear hE a; intro a hE
  replace hM : Mem _ _ w7 [_, _, _, _, _, _, _, _, _, _] := hM.call0 hN trivial; clear hN
  refine s_move hE rfl rfl ?_; clear hE a; intro a hE
  refine s_extract hE rfl rfl rfl ?_; clear hE a; intro a hE
  refine s_extract hE rfl rfl rfl ?_; clear hE a; intro a hE
  refine s_alloc [32] hE hM zero34 rfl rfl ?_; clear hE a; intro a b12 w8 hE hM'
  clear hM; have hM := hM'; clear hM'
  refine s_storeSeg 0 hE rfl rfl hM rfl sz34 ((bv_length _).trans (tagZ_len (OkTs.all (OkTs.pad (ok_take ho_ls))))) (bv_one _) rfl ((bv_length _).trans (by first | (simp; done) | (simp [*]; done) | (simp; omega))) rfl (by intro X h; cases h) ?_; intro w9 hM'; clear hM; have hM := hM'; clear hM'
  simp only [List.set_cons_zero, List.set_cons_succ] at hM
  refine s_assign hE rfl rfl ?_; clear hE a; intro a hE
  refine q_nil ?_
  replace hE : Env a 171 [(3, _), (4, _), (5, _), (6, _), (7, _), (9, _), (12, _), (13, _), (23, _), (40, _), (50, _)] := hE.sel [3, 4, 5, 6, 7, 9, 12, 13, 23, 40, 50] rfl
  refine hK11 _ _ ?_
  refine wp_seq_k (fun K12 hK12 => ?_)
  refine wp_plain [true, true, true, true, false, true] rfl rfl ?_
  refine s_fieldAddr hE rfl fo26_0 rfl ?_; clear hE a; intro a hE
  refine s_load1 hE rfl (hM.get 6 rfl) rfl one3 (by intro X h; cases h) rfl ?_; clear hE a; intro a hE
  refine s_fieldAddr hE rfl fo46_0 rfl ?_; clear hE a; intro a hE
  refine s_load1 hE rfl (hM.get 5 rfl) rfl one3 (by intro X h; cases h) rfl ?_; clear hE a; intro a hE
  refine s_call hE rfl Tryd.call15 (tpathI_c ((h : Nat) : Int) ((q : Nat) : Int) _) rfl ?_
  rintro e w10 ⟨v74, rfl, hN⟩
  refine ⟨_, rfl, trivial, ?_⟩; clear hE a; intro a hE
  replace hM : Mem _ _ w10 [_, _, _, _, _, _, _, _, _, _, _, _] := hM.call0 hN ⟨rfl, trivial⟩; clear hN
  refine s_assign hE rfl rfl ?_; clear hE a; intro a hE
  refine q_nil ?_
  replace hE : Env a 171 [(3, _), (4, _), (5, _), (6, _), (7, _), (9, _), (12, _), (13, _), (14, _), (23, _), (40, _), (50, _)] := hE.sel [3, 4, 5, 6, 7, 9, 12, 13, 14, 23, 40, 50] rfl
  refine hK12 _ _ ?_
  refine wp_seq_k (fun K13 hK13 => ?_)
  refine wp_seq_k (fun K14 hK14 => ?_)
  refine wp_drawnM hM (by kernel_rfl) (fun _ => False) [(0, true), (1, true), (2, true), (3, true), (4, true), (5, true), (6, true), (7, true), (8, true), (9, true), (10, true), (11, true), (12, true), (13, true), (14, true), (15, true), (16, true), (17, true), (18, true), (19, true), (20, true), (21, true), (22, true), (23, false), (24, false), (25, true), (26, true)] [(23, [(24, 23), (25, 24), (26, 25)]), (24, [(25, 24), (26, 25)])] (by kernel_rfl) rfl ?_
  intro w11 hM' hww11; clear hM; have hM := hM'; clear hM'
  refine s_move hE rfl rfl ?_; clear hE a; intro a hE
  refine s_bin hE rfl rfl bin_neq rfl ?_; clear hE a; intro a hE
  refine s_move hE rfl rfl ?_; clear hE a; intro a hE
  replace hE := hE.cast 77 rfl (show _ = Value.bool false from (congrArg Value.bool (by rw [eZ_in (by omega)]; rfl)))
  refine g_yes hE rfl rfl ?_
  refine s_move hE rfl rfl ?_; clear hE a; intro a hE
  refine g_yes hE rfl rfl ?_
  refine s_len hE rfl Tryd.underlying35 (own_slice (hM.get 0 rfl)) rfl ?_; clear hE a; intro a hE
  refine g_yes hE rfl rfl ?_
  refine s_fieldAddr hE rfl fo26_0 rfl ?_; clear hE a; intro a hE
  refine g_yes hE rfl rfl ?_
  refine s_load1 hE rfl (hM.get 7 rfl) rfl one3 (by intro X h; cases h; simp) rfl ?_; clear hE a; intro a hE
  refine g_yes hE rfl rfl ?_
  refine s_bin hE rfl rfl bin_neq rfl ?_; clear hE a; intro a hE
  refine s_pickf hE rfl rfl rfl ?_; clear hE a; intro a hE
  refine s_move hE rfl rfl ?_; clear hE a; intro a hE
  replace hE := hE.cast 84 rfl (show _ = Value.bool false from (congrArg Value.bool (by rw [path_len hh hq]; simp)))
  refine g_yes hE rfl rfl ?_
  refine s_move hE rfl rfl ?_; clear hE a; intro a hE
  refine g_yes hE rfl rfl ?_
  refine s_len hE rfl Tryd.underlying44 (own_slice (hM.get 2 rfl)) rfl ?_; clear hE a; intro a hE
  refine g_yes hE rfl rfl ?_
  refine s_fieldAddr hE rfl fo26_0 rfl ?_; clear hE a; intro a hE
  refine g_yes hE rfl rfl ?_
  refine s_load1 hE rfl (hM.get 7 rfl) rfl one3 (by intro X h; cases h; simp) rfl ?_; clear hE a; intro a hE
  refine g_yes hE rfl rfl ?_
  refine s_bin hE rfl rfl bin_neq rfl ?_; clear hE a; intro a hE
  refine s_pickf hE rfl rfl rfl ?_; clear hE a; intro a hE
  refine s_move hE rfl rfl ?_; clear hE a; intro a hE
  replace hE := hE.cast 91 rfl (show _ = Value.bool false from (congrArg Value.bool (by rw [proofZ_len (show inN 0 (2 ^ h) (q : Int) by omega)]; simp)))
  refine g_yes hE rfl rfl ?_
  refine s_loadN hE rfl (hM.get 8 rfl) row23 rfl (by intro X h; cases h; simp) rfl ?_; clear hE a; intro a hE
  refine g_yes hE rfl rfl ?_
  refine s_fieldAddr hE rfl fo46_0 rfl ?_; clear hE a; intro a hE
  refine g_yes hE rfl rfl ?_
  refine s_load1 hE rfl (hM.get 6 rfl) rfl one3 (by intro X h; cases h; simp) rfl ?_; clear hE a; intro a hE
  refine g_yes hE rfl rfl ?_
  refine s_loadN hE rfl (hM.get 1 rfl) row34 rfl (by intro X h; cases h; simp) rfl ?_; clear hE a; intro a hE
  refine g_yes hE rfl rfl ?_
  refine s_move hE rfl rfl ?_; clear hE a; intro a hE
  refine g_yes hE rfl rfl ?_
  refine s_move hE rfl rfl ?_; clear hE a; intro a hE
  refine g_yes hE rfl rfl ?_
  obtain ⟨cs3, hs3⟩ := own_rd (hM.get 4 rfl)
  refine s_call hE rfl Tryd.call12 (ttop_c b36 h k u36 (allT k (2 ^ h) (padL (2 ^ h) (ls.take (min ls.length 32)))) cs3 _ (hM.get 3 rfl) hs3 hl_k (OkTs.all (OkTs.pad (ok_take ho_ls))) (by first | decide | omega) (allT_len (Nat.le_of_eq (padL_length (by rw [hll]; exact hm))))) rfl ?_
  rintro e w12 ⟨rfl, hN⟩
  refine ⟨_, rfl, hN.sta0 _, ?_⟩; clear hE a; intro a hE
  replace hM : Mem _ _ w12 [_, _, _, _, _, _, _, _, _, _, _, _] := hM.call0 hN trivial; clear hN
  refine g_yes hE rfl rfl ?_
  obtain ⟨cq4, hq4⟩ := own_rd (hM.get 2 rfl)
  refine s_call hE rfl Tryd.call16 (tcheckI_c k ((q : Nat) : Int) (tagZ (allT k (2 ^ h) (padL (2 ^ h) (ls.take (min ls.length 32)))) (2 ^ h) (((2 ^ h) + q : Nat) : Int)) _ (proofZ (allT k (2 ^ h) (padL (2 ^ h) (ls.take (min ls.length 32)))) h ((q : Nat) : Int)) _ (gT (allT k (2 ^ h) (padL (2 ^ h) (ls.take (min ls.length 32)))) 1) _ (hM.get 11 rfl) hl_k (tagZ_len (OkTs.all (OkTs.pad (ok_take ho_ls)))) hq4 (proofZ_ok (OkTs.all (OkTs.pad (ok_take ho_ls)))) (OkTs.get (OkTs.all (OkTs.pad (ok_take ho_ls))) 1)) rfl ?_
  rintro e w13 ⟨rfl, hN⟩
  refine ⟨_, rfl, hN.sta0 _, ?_⟩; clear hE a; intro a hE
  replace hM : Mem _ _ w13 [_, _, _, _, _, _, _, _, _, _, _, _] := hM.call0 hN trivial; clear hN
  refine g_yes hE rfl rfl ?_
  refine s_not hE rfl rfl ?_; clear hE a; intro a hE
  refine s_pickf hE rfl rfl rfl ?_; clear hE a; intro a hE
  refine q_nil ?_
  replace hE : Env a 171 [(3, _), (4, _), (5, _), (6, _), (7, _), (9, _), (12, _), (14, _), (23, _), (40, _), (50, _), (101, _)] := hE.sel [3, 4, 5, 6, 7, 9, 12, 14, 23, 40, 50, 101] rfl
  refine hK14 _ _ ?_
  replace hE := hE.cast 101 rfl (show _ = Value.bool false from (congrArg Value.bool (by rw [own_chkT (OkTs.pad hoL) hh (padL_length (by rw [hll]; exact hm)) hq]; rfl)))
  refine wp_cond_false (hE.eval rfl) ?_
  refine wp_skip ?_
  refine hK13 _ _ ?_
  refine wp_seq_k (fun K15 hK15 => ?_)
  refine wp_seq_k (fun K16 hK16 => ?_)
  refine wp_drawnM hM (by kernel_rfl) (fun _ => False) [(0, true), (1, true), (2, true), (3, true), (4, true), (5, true), (6, true), (7, true), (8, true), (9, true), (10, true), (11, true), (12, true), (13, true), (14, true), (15, false), (16, false), (17, true), (18, true)] [(15, [(16, 15), (17, 16), (18, 17)]), (16, [(17, 16), (18, 17)])] (by kernel_rfl) rfl ?_
  intro w14 hM' hww14; clear hM; have hM := hM'; clear hM'
  refine s_fieldAddr hE rfl fo46_2 rfl ?_; clear hE a; intro a hE
  refine s_load1 hE rfl (hM.get 6 rfl) rfl one44 (by intro X h; cases h; simp) rfl ?_; clear hE a; intro a hE
  refine s_len hE rfl Tryd.underlying44 (rd_slice (hM.get 10 rfl)) rfl ?_; clear hE a; intro a hE
  refine s_fieldAddr hE rfl fo26_0 rfl ?_; clear hE a; intro a hE
  refine s_load1 hE rfl (hM.get 7 rfl) rfl one3 (by intro X h; cases h; simp) rfl ?_; clear hE a; intro a hE
  refine s_bin hE rfl rfl bin_neq rfl ?_; clear hE a; intro a hE
  refine s_move hE rfl rfl ?_; clear hE a; intro a hE
  refine hE.split 108 rfl (fun hb108 hE' => ?_) (fun hb108 hE' => ?_)
  · replace hE := hE'; clear hE'
    replace hb108 := of_decide_eq_false (not_true hb108)
    replace hb108 : ¬ (ps.length = h) := by omega
    refine g_no (b := true) hE rfl rfl rfl ?_; clear hE a; intro a hE
    refine g_no (b := true) hE rfl rfl rfl ?_; clear hE a; intro a hE
    refine g_no (b := true) hE rfl rfl rfl ?_; clear hE a; intro a hE
    refine g_no (b := true) hE rfl rfl rfl ?_; clear hE a; intro a hE
    refine g_no (b := true) hE rfl rfl rfl ?_; clear hE a; intro a hE
    refine g_no (b := true) hE rfl rfl rfl ?_; clear hE a; intro a hE
    refine g_no (b := true) hE rfl rfl rfl ?_; clear hE a; intro a hE
    refine g_no (b := true) hE rfl rfl rfl ?_; clear hE a; intro a hE
    refine g_no (b := true) hE rfl rfl rfl ?_; clear hE a; intro a hE
    refine g_no (b := true) hE rfl rfl rfl ?_; clear hE a; intro a hE
    refine g_no (b := true) hE rfl rfl rfl ?_; clear hE a; intro a hE
    refine s_pickt hE rfl rfl rfl ?_; clear hE a; intro a hE
    refine q_nil ?_
    replace hE : Env a 171 [(3, _), (4, _), (5, _), (6, _), (7, _), (9, _), (12, _), (14, _), (23, _), (40, _), (50, _), (101, _), (120, _)] := hE.sel [3, 4, 5, 6, 7, 9, 12, 14, 23, 40, 50, 101, 120] rfl
    refine hK16 _ _ ?_
    refine wp_cond_true (hE.eval rfl) ?_
    refine wp_seq_k (fun K17 hK17 => ?_)
    refine wp_plain [false, true] rfl rfl ?_
    refine s_call hE rfl Tryd.call9 (works_c  _ (hM.get 11 rfl)) rfl ?_
    rintro e w15 ⟨rfl, hN⟩
    refine ⟨_, rfl, trivial, ?_⟩; clear hE a; intro a hE
    replace hM : Mem _ _ w15 [_, _, _, _, _, _, _, _, _, _, _, _] := hM.call0 hN trivial; clear hN
    refine s_assign hE rfl rfl ?_; clear hE a; intro a hE
    refine q_nil ?_
    replace hE : Env a 171 [(3, _), (4, _), (5, _), (6, _), (7, _), (9, _), (12, _), (14, _), (23, _), (40, _), (50, _), (101, _), (120, _)] := hE.sel [3, 4, 5, 6, 7, 9, 12, 14, 23, 40, 50, 101, 120] rfl
    refine hK17 _ _ ?_
    refine wp_ret ?_
    refine q_then_r ?_
    refine f_ret1 hE rfl rfl ?_
    exact ⟨(by first | rfl | (simp; done)), hM.pick [] rfl⟩
  · replace hE := hE'; clear hE'
    replace hb108 := of_decide_eq_true (not_false' hb108)
    replace hb108 : ps.length = h := by omega
    have hps : ps.length = h := by omega
    refine g_yes hE rfl rfl ?_
    refine s_loadN hE rfl (hM.get 8 rfl) row23 rfl (by intro X h; cases h; simp) rfl ?_; clear hE a; intro a hE
    refine g_yes hE rfl rfl ?_
    refine s_fieldAddr hE rfl fo46_0 rfl ?_; clear hE a; intro a hE
    refine g_yes hE rfl rfl ?_
    refine s_load1 hE rfl (hM.get 6 rfl) rfl one3 (by intro X h; cases h; simp) rfl ?_; clear hE a; intro a hE
    refine g_yes hE rfl rfl ?_
    refine s_fieldAddr hE rfl fo46_1 rfl ?_; clear hE a; intro a hE
    refine g_yes hE rfl rfl ?_
    refine s_loadN hE rfl (hM.get 6 rfl) row34 rfl (by intro X h; cases h; simp) rfl ?_; clear hE a; intro a hE
    refine g_yes hE rfl rfl ?_
    refine s_fieldAddr hE rfl fo46_2 rfl ?_; clear hE a; intro a hE
    refine g_yes hE rfl rfl ?_
    refine s_load1 hE rfl (hM.get 6 rfl) rfl one44 (by intro X h; cases h; simp) rfl ?_; clear hE a; intro a hE
    refine g_yes hE rfl rfl ?_
    refine s_move hE rfl rfl ?_; clear hE a; intro a hE
    refine g_yes hE rfl rfl ?_
    obtain ⟨cs5, hs5⟩ := own_rd (hM.get 4 rfl)
    refine s_call hE rfl Tryd.call12 (ttop_c b36 h k u36 (allT k (2 ^ h) (padL (2 ^ h) (ls.take (min ls.length 32)))) cs5 _ (hM.get 3 rfl) hs5 hl_k (OkTs.all (OkTs.pad (ok_take ho_ls))) (by first | decide | omega) (allT_len (Nat.le_of_eq (padL_length (by rw [hll]; exact hm))))) rfl ?_
    rintro e w15 ⟨rfl, hN⟩
    refine ⟨_, rfl, hN.sta0 _, ?_⟩; clear hE a; intro a hE
    replace hM : Mem _ _ w15 [_, _, _, _, _, _, _, _, _, _, _, _] := hM.call0 hN trivial; clear hN
    refine g_yes hE rfl rfl ?_
    refine s_call hE rfl Tryd.call16 (tcheckI_c k ((q : Nat) : Int) tg _ ps _ (gT (allT k (2 ^ h) (padL (2 ^ h) (ls.take (min ls.length 32)))) 1) _ (hM.get 11 rfl) hl_k hl_tg (hM.get 10 rfl) ho_ps (OkTs.get (OkTs.all (OkTs.pad (ok_take ho_ls))) 1)) rfl ?_
    rintro e w16 ⟨rfl, hN⟩
    refine ⟨_, rfl, hN.sta0 _, ?_⟩; clear hE a; intro a hE
    replace hM : Mem _ _ w16 [_, _, _, _, _, _, _, _, _, _, _, _] := hM.call0 hN trivial; clear hN
    refine g_yes hE rfl rfl ?_
    refine s_not hE rfl rfl ?_; clear hE a; intro a hE
    refine s_pickf hE rfl rfl rfl ?_; clear hE a; intro a hE
    refine q_nil ?_
    replace hE : Env a 171 [(3, _), (4, _), (5, _), (6, _), (7, _), (9, _), (12, _), (14, _), (23, _), (40, _), (50, _), (101, _), (120, _)] := hE.sel [3, 4, 5, 6, 7, 9, 12, 14, 23, 40, 50, 101, 120] rfl
    refine hK16 _ _ ?_
    refine hE.split 120 rfl (fun hb120 hE' => ?_) (fun hb120 hE' => ?_)
    · replace hE := hE'; clear hE'
      replace hb120 := not_true hb120
      refine wp_cond_true (hE.eval rfl) ?_
      refine wp_seq_k (fun K17 hK17 => ?_)
      refine wp_plain [false, true] rfl rfl ?_
      refine s_call hE rfl Tryd.call9 (works_c  _ (hM.get 11 rfl)) rfl ?_
      rintro e w17 ⟨rfl, hN⟩
      refine ⟨_, rfl, trivial, ?_⟩; clear hE a; intro a hE
      replace hM : Mem _ _ w17 [_, _, _, _, _, _, _, _, _, _, _, _] := hM.call0 hN trivial; clear hN
      refine s_assign hE rfl rfl ?_; clear hE a; intro a hE
      refine q_nil ?_
      replace hE : Env a 171 [(3, _), (4, _), (5, _), (6, _), (7, _), (9, _), (12, _), (14, _), (23, _), (40, _), (50, _), (101, _), (120, _)] := hE.sel [3, 4, 5, 6, 7, 9, 12, 14, 23, 40, 50, 101, 120] rfl
      refine hK17 _ _ ?_
      refine wp_ret ?_
      refine q_then_r ?_
      refine f_ret1 hE rfl rfl ?_
      exact ⟨(by first | rfl | (simp; done)), hM.pick [] rfl⟩
    · replace hE := hE'; clear hE'
      replace hb120 := not_false' hb120
      have hck : chkZ k ((q : Nat) : Int) tg ps (gT (allT k (2 ^ h) (padL (2 ^ h) (ls.take (min ls.length 32)))) 1) = true := hb120
      refine wp_cond_false (hE.eval rfl) ?_
      refine wp_skip ?_
      refine hK15 _ _ ?_
      refine wp_seq_k (fun K17 hK17 => ?_)
      refine wp_seq_k (fun K18 hK18 => ?_)
      refine wp_plain [true, true, true, true] rfl rfl ?_
      refine s_fieldAddr hE rfl fo26_0 rfl ?_; clear hE a; intro a hE
      refine s_load1 hE rfl (hM.get 7 rfl) rfl one3 (by intro X h; cases h) rfl ?_; clear hE a; intro a hE
      refine s_bin hE rfl rfl (show Bin _ _ _ _ _ (.int .i64 ((h - 1 : Nat) : Int)) from bin_sub (by rw [wrap_i64 (by omega) (by omega)]; omega)) rfl ?_; clear hE a; intro a hE
      refine s_assign hE rfl rfl ?_; clear hE a; intro a hE
      refine q_nil ?_
      replace hE : Env a 171 [(3, _), (4, _), (5, _), (6, _), (7, _), (9, _), (12, _), (14, _), (15, _), (23, _), (40, _), (50, _), (101, _), (120, _)] := hE.sel [3, 4, 5, 6, 7, 9, 12, 14, 15, 23, 40, 50, 101, 120] rfl
      refine hK18 _ _ ?_
      refine wp_block ?_
      replace hE := hE.cast 15 rfl (show _ = Value.int .i64 ((h : Int) - 1 - 0) from (congrArg _ (by omega)))
      refine c_loop (fun (i : Nat) a w' => i ≤ h ∧ (∀ j, h - i ≤ j → j < h → ps.getD j zSc = (proofZ (allT k (2 ^ h) (padL (2 ^ h) (ls.take (min ls.length 32)))) h ((q : Nat) : Int)).getD j zSc) ∧ Env a 171 [(3, .pointer (some ⟨b3, 0, none⟩)), (4, .pointer (some ⟨b4, 0, none⟩)), (5, .pointer (some ⟨b5, 0, none⟩)), (6, .bool false), (7, .pointer (some ⟨b36, 0, none⟩)), (9, v46), (12, .pointer (some ⟨b12, 0, none⟩)), (14, v74), (15, .int .i64 ((h : Int) - 1 - i)), (23, .bool false), (40, .bool false), (50, .bool false), (101, .bool false), (120, .bool false)] ∧ Mem w [] w' [own v74 1 ((pathZ ((h : Nat) : Int) ((q : Nat) : Int)).length) ((pathZ ((h : Nat) : Int) ((q : Nat) : Int)).flatMap intC), blk b12 [bv (tagZ (allT k (2 ^ h) (padL (2 ^ h) (ls.take (min ls.length 32)))) (2 ^ h) (((2 ^ h) + q : Nat) : Int))] [32] 34, own v46 64 ((proofZ (allT k (2 ^ h) (padL (2 ^ h) (ls.take (min ls.length 32)))) h ((q : Nat) : Int)).length) ((proofZ (allT k (2 ^ h) (padL (2 ^ h) (ls.take (min ls.length 32)))) h ((q : Nat) : Int)).flatMap bv), blk b36 [bv k, [.int .i64 ((h : Nat) : Int)], [u36]] [32, 1, 1] 73, own u36 32 ((allT k (2 ^ h) (padL (2 ^ h) (ls.take (min ls.length 32)))).length) ((allT k (2 ^ h) (padL (2 ^ h) (ls.take (min ls.length 32)))).flatMap bv), rd v35 32 ((ls.take (min ls.length 32)).length) (c - 0) ((ls.take (min ls.length 32)).flatMap bv), blk b5 [[.int .i64 ((q : Nat) : Int)], bv tg, [vp], bv tp] [1, 32, 1, 32] 46, blk b4 [[.int .i64 ((h : Nat) : Int)], [v]] [1, 1] 26, blk b3 [bv k] [32] 23, rd v 32 ls.length c (ls.flatMap bv), rd vp 64 ps.length cp (ps.flatMap bv), glb 0]) (fun i => h - i) 0 ⟨Nat.zero_le _, (fun j h1 h2 => absurd h2 (by omega)), hE.sel [3, 4, 5, 6, 7, 9, 12, 14, 15, 23, 40, 50, 101, 120] rfl, hM⟩ ?_
      clear hE hM a; rintro i a w17 ⟨hi, hpre, hE, hM⟩
      refine wp_seq_k (fun K19 hK19 => ?_)
      refine wp_seq_k (fun K20 hK20 => ?_)
      refine wp_plain [true, true] rfl rfl ?_
      refine s_move hE rfl rfl ?_; clear hE a; intro a hE
      refine s_bin hE rfl rfl bin_geq rfl ?_; clear hE a; intro a hE
      refine q_nil ?_
      replace hE : Env a 171 [(3, _), (4, _), (5, _), (6, _), (7, _), (9, _), (12, _), (14, _), (15, _), (23, _), (40, _), (50, _), (101, _), (120, _), (126, _)] := hE.sel [3, 4, 5, 6, 7, 9, 12, 14, 15, 23, 40, 50, 101, 120, 126] rfl
      refine hK20 _ _ ?_
      refine hE.split 126 rfl (fun hb126 hE' => ?_) (fun hb126 hE' => ?_)
      · replace hE := hE'; clear hE'
        replace hb126 := of_decide_eq_true hb126
        replace hb126 : i < h := by omega
        refine wp_cond_true (hE.eval rfl) ?_
        refine wp_skip ?_
        refine hK19 _ _ ?_
        refine wp_seq_k (fun K21 hK21 => ?_)
        refine wp_block ?_
        refine wp_seq_k (fun K22 hK22 => ?_)
        refine wp_drawnM hM (by kernel_rfl) (fun _ => False) [(0, true), (1, true), (2, true), (3, true), (4, true), (5, true), (6, true), (7, true), (8, true), (9, true)] [] (by kernel_rfl) rfl ?_
        intro w18 hM' hww18; clear hM; have hM := hM'; clear hM'
        refine s_fieldAddr hE rfl fo46_2 rfl ?_; clear hE a; intro a hE
        refine s_load1 hE rfl (hM.get 6 rfl) rfl one44 (by intro X h; cases h; simp) rfl ?_; clear hE a; intro a hE
        refine s_move hE rfl rfl ?_; clear hE a; intro a hE
        refine s_indexRd (j := (h - 1 - i)) hE rfl (hM.get 10 rfl) rfl slt44 (by first | rfl | omega) (by first | (rw [path_len hh hq]; omega) | (rw [proofZ_len (show inN 0 (2 ^ h) (q : Int) by omega)]; omega) | omega) rfl ?_; clear hE a; intro a p132 hE hc132 hp132
        have hlj132 : (h - 1 - i) < ps.length := (by first | (rw [path_len hh hq]; omega) | (rw [proofZ_len (show inN 0 (2 ^ h) (q : Int) by omega)]; omega) | omega)
        have hok132 := ho_ps _ (getD_mem (d := zSc) hlj132)
        rw [flat_elem (d := zSc) (fun x hx => ((bv_length _).trans (ho_ps x hx))) hlj132] at hc132
        refine s_loadAtN hE rfl hc132 (by rw [((bv_length _).trans hok132)]; exact row52) (by intro X h; cases h; simp) rfl ?_; clear hE a; intro a hE
        replace hE := hE.cast 133 rfl (show _ = Value.agg (bv (ps.getD (h - 1 - i) zSc)).toArray from rfl)
        refine s_move hE rfl rfl ?_; clear hE a; intro a hE
        refine s_move hE rfl rfl ?_; clear hE a; intro a hE
        obtain ⟨cx136, hx136⟩ := own_rd (hM.get 2 rfl)
        refine s_indexRd (j := (h - 1 - i)) hE rfl hx136 rfl slt44 (by first | rfl | omega) (by first | (rw [path_len hh hq]; omega) | (rw [proofZ_len (show inN 0 (2 ^ h) (q : Int) by omega)]; omega) | omega) rfl ?_; clear hE a; intro a p136 hE hc136 hp136
        have hlj136 : (h - 1 - i) < (proofZ (allT k (2 ^ h) (padL (2 ^ h) (ls.take (min ls.length 32)))) h ((q : Nat) : Int)).length := (by first | (rw [path_len hh hq]; omega) | (rw [proofZ_len (show inN 0 (2 ^ h) (q : Int) by omega)]; omega) | omega)
        have hok136 := (proofZ_ok (OkTs.all (OkTs.pad (ok_take ho_ls)))) _ (getD_mem (d := zSc) hlj136)
        rw [flat_elem (d := zSc) (fun x hx => ((bv_length _).trans ((proofZ_ok (OkTs.all (OkTs.pad (ok_take ho_ls)))) x hx))) hlj136] at hc136
        refine s_loadAtN hE rfl hc136 (by rw [((bv_length _).trans hok136)]; exact row52) (by intro X h; cases h; simp) rfl ?_; clear hE a; intro a hE
        replace hE := hE.cast 137 rfl (show _ = Value.agg (bv ((proofZ (allT k (2 ^ h) (padL (2 ^ h) (ls.take (min ls.length 32)))) h ((q : Nat) : Int)).getD (h - 1 - i) zSc)).toArray from rfl)
        refine s_bin hE rfl rfl (eqa52 hok132 hok136).2 rfl ?_; clear hE a; intro a hE
        refine q_nil ?_
        replace hE : Env a 171 [(3, _), (4, _), (5, _), (6, _), (7, _), (9, _), (12, _), (14, _), (15, _), (23, _), (40, _), (50, _), (101, _), (120, _), (126, _), (138, _)] := hE.sel [3, 4, 5, 6, 7, 9, 12, 14, 15, 23, 40, 50, 101, 120, 126, 138] rfl
        refine hK22 _ _ ?_
        refine hE.split 138 rfl (fun hb138 hE' => ?_) (fun hb138 hE' => ?_)
        · replace hE := hE'; clear hE'
          replace hb138 := of_decide_eq_false (not_true hb138)
          refine wp_cond_true (hE.eval rfl) ?_
          refine wp_seq_k (fun K23 hK23 => ?_)
          refine wp_drawnM hM (by kernel_rfl) (fun _ => False) [(0, true), (1, true), (2, true), (3, true), (4, true), (5, true), (6, true), (7, true), (8, true), (9, true), (11, true), (12, true), (13, true), (14, true), (15, true), (16, true), (17, true), (18, true), (19, true), (10, false), (20, false), (21, true), (22, true), (23, false), (24, true), (25, true)] [(10, [(20, 10), (21, 10), (22, 20), (23, 22), (24, 22), (25, 10)]), (20, [(21, 20), (22, 20), (23, 22), (24, 22), (25, 20)]), (23, [(24, 23), (25, 23)])] (by kernel_rfl) rfl ?_
          intro w19 hM' hww19; clear hM; have hM := hM'; clear hM'
          refine s_loadN hE rfl (hM.get 8 rfl) row23 rfl (by intro X h; cases h; simp) rfl ?_; clear hE a; intro a hE
          refine s_move hE rfl rfl ?_; clear hE a; intro a hE
          refine s_move hE rfl rfl ?_; clear hE a; intro a hE
          obtain ⟨cx142, hx142⟩ := own_rd (hM.get 0 rfl)
          refine s_indexRd (j := (h - 1 - i)) hE rfl hx142 rfl slt35 (by first | rfl | omega) (by first | (rw [path_len hh hq]; omega) | (rw [proofZ_len (show inN 0 (2 ^ h) (q : Int) by omega)]; omega) | omega) rfl ?_; clear hE a; intro a p142 hE hc142 hp142
          have hlj142 : (h - 1 - i) < (pathZ ((h : Nat) : Int) ((q : Nat) : Int)).length := (by first | (rw [path_len hh hq]; omega) | (rw [proofZ_len (show inN 0 (2 ^ h) (q : Int) by omega)]; omega) | omega)
          have hok142 := pathZ_ok _ (getD_mem (d := 0) hlj142)
          rw [flat_elem (d := 0) (fun x hx => (show (intC _).length = 1 from rfl)) hlj142] at hc142
          replace hc142 : (cellsAt _ [.int .i64 ((((pathZ ((h : Nat) : Int) ((q : Nat) : Int)).getD (h - 1 - i) 0) : Nat) : Int)]).holds _ := hc142
          refine s_loadAt1 hE rfl hc142 one3 (by intro X h; cases h; simp) rfl ?_; clear hE a; intro a hE
          refine s_fieldAddr hE rfl fo46_2 rfl ?_; clear hE a; intro a hE
          refine s_load1 hE rfl (hM.get 6 rfl) rfl one44 (by intro X h; cases h; simp) rfl ?_; clear hE a; intro a hE
          refine s_move hE rfl rfl ?_; clear hE a; intro a hE
          refine s_indexRd (j := (h - 1 - i)) hE rfl (hM.get 10 rfl) rfl slt44 (by first | rfl | omega) (by first | (rw [path_len hh hq]; omega) | (rw [proofZ_len (show inN 0 (2 ^ h) (q : Int) by omega)]; omega) | omega) rfl ?_; clear hE a; intro a p147 hE hc147 hp147
          have hlj147 : (h - 1 - i) < ps.length := (by first | (rw [path_len hh hq]; omega) | (rw [proofZ_len (show inN 0 (2 ^ h) (q : Int) by omega)]; omega) | omega)
          have hok147 := ho_ps _ (getD_mem (d := zSc) hlj147)
          rw [flat_elem (d := zSc) (fun x hx => ((bv_length _).trans (ho_ps x hx))) hlj147] at hc147
          refine s_loadAtN hE rfl hc147 (by rw [((bv_length _).trans hok147)]; exact row52) (by intro X h; cases h; simp) rfl ?_; clear hE a; intro a hE
          replace hE := hE.cast 148 rfl (show _ = Value.agg (bv (ps.getD (h - 1 - i) zSc)).toArray from rfl)
          refine s_loadN hE rfl (hM.get 8 rfl) row23 rfl (by intro X h; cases h; simp) rfl ?_; clear hE a; intro a hE
          refine s_move hE rfl rfl ?_; clear hE a; intro a hE
          refine s_move hE rfl rfl ?_; clear hE a; intro a hE
          obtain ⟨cx153, hx153⟩ := own_rd (hM.get 0 rfl)
          refine s_indexRd (j := (h - 1 - i)) hE rfl hx153 rfl slt35 (by first | rfl | omega) (by first | (rw [path_len hh hq]; omega) | (rw [proofZ_len (show inN 0 (2 ^ h) (q : Int) by omega)]; omega) | omega) rfl ?_; clear hE a; intro a p153 hE hc153 hp153
          have hlj153 : (h - 1 - i) < (pathZ ((h : Nat) : Int) ((q : Nat) : Int)).length := (by first | (rw [path_len hh hq]; omega) | (rw [proofZ_len (show inN 0 (2 ^ h) (q : Int) by omega)]; omega) | omega)
          have hok153 := pathZ_ok _ (getD_mem (d := 0) hlj153)
          rw [flat_elem (d := 0) (fun x hx => (show (intC _).length = 1 from rfl)) hlj153] at hc153
          replace hc153 : (cellsAt _ [.int .i64 ((((pathZ ((h : Nat) : Int) ((q : Nat) : Int)).getD (h - 1 - i) 0) : Nat) : Int)]).holds _ := hc153
          refine s_loadAt1 hE rfl hc153 one3 (by intro X h; cases h; simp) rfl ?_; clear hE a; intro a hE
          refine s_move hE rfl rfl ?_; clear hE a; intro a hE
          refine s_move hE rfl rfl ?_; clear hE a; intro a hE
          obtain ⟨cx157, hx157⟩ := own_rd (hM.get 2 rfl)
          refine s_indexRd (j := (h - 1 - i)) hE rfl hx157 rfl slt44 (by first | rfl | omega) (by first | (rw [path_len hh hq]; omega) | (rw [proofZ_len (show inN 0 (2 ^ h) (q : Int) by omega)]; omega) | omega) rfl ?_; clear hE a; intro a p157 hE hc157 hp157
          have hlj157 : (h - 1 - i) < (proofZ (allT k (2 ^ h) (padL (2 ^ h) (ls.take (min ls.length 32)))) h ((q : Nat) : Int)).length := (by first | (rw [path_len hh hq]; omega) | (rw [proofZ_len (show inN 0 (2 ^ h) (q : Int) by omega)]; omega) | omega)
          have hok157 := (proofZ_ok (OkTs.all (OkTs.pad (ok_take ho_ls)))) _ (getD_mem (d := zSc) hlj157)
          rw [flat_elem (d := zSc) (fun x hx => ((bv_length _).trans ((proofZ_ok (OkTs.all (OkTs.pad (ok_take ho_ls)))) x hx))) hlj157] at hc157
          refine s_loadAtN hE rfl hc157 (by rw [((bv_length _).trans hok157)]; exact row52) (by intro X h; cases h; simp) rfl ?_; clear hE a; intro a hE
          replace hE := hE.cast 158 rfl (show _ = Value.agg (bv ((proofZ (allT k (2 ^ h) (padL (2 ^ h) (ls.take (min ls.length 32)))) h ((q : Nat) : Int)).getD (h - 1 - i) zSc)).toArray from rfl)
          refine s_call hE rfl Tryd.call17 (tnode_c k ((((pathZ ((h : Nat) : Int) ((q : Nat) : Int)).getD (h - 1 - i) 0) : Nat) : Int) (ps.getD (h - 1 - i) zSc) _ (hM.get 11 rfl) hl_k hok147) rfl ?_
          rintro e w20 ⟨rfl, hN⟩
          refine ⟨_, rfl, hN.sta0 _, ?_⟩; clear hE a; intro a hE
          replace hM : Mem _ _ w20 [_, _, _, _, _, _, _, _, _, _, _, _] := hM.call0 hN trivial; clear hN
          replace hE := hE.cast 149 rfl (show _ = Value.agg (bv (nd k ((pathZ ((h : Nat) : Int) ((q : Nat) : Int)).getD (h - 1 - i) 0) (ps.getD (h - 1 - i) zSc))).toArray from rfl)
          refine s_call hE rfl Tryd.call17 (tnode_c k ((((pathZ ((h : Nat) : Int) ((q : Nat) : Int)).getD (h - 1 - i) 0) : Nat) : Int) ((proofZ (allT k (2 ^ h) (padL (2 ^ h) (ls.take (min ls.length 32)))) h ((q : Nat) : Int)).getD (h - 1 - i) zSc) _ (hM.get 11 rfl) hl_k hok157) rfl ?_
          rintro e w21 ⟨rfl, hN⟩
          refine ⟨_, rfl, hN.sta0 _, ?_⟩; clear hE a; intro a hE
          replace hM : Mem _ _ w21 [_, _, _, _, _, _, _, _, _, _, _, _] := hM.call0 hN trivial; clear hN
          replace hE := hE.cast 159 rfl (show _ = Value.agg (bv (nd k ((pathZ ((h : Nat) : Int) ((q : Nat) : Int)).getD (h - 1 - i) 0) ((proofZ (allT k (2 ^ h) (padL (2 ^ h) (ls.take (min ls.length 32)))) h ((q : Nat) : Int)).getD (h - 1 - i) zSc))).toArray from rfl)
          refine s_bin hE rfl rfl (eqa34 (nd_len ..) (nd_len ..)).1 rfl ?_; clear hE a; intro a hE
          refine s_move hE rfl rfl ?_; clear hE a; intro a hE
          replace hE := hE.cast 161 rfl (show _ = Value.bool true from (congrArg Value.bool (by rw [decide_eq_true (prv_at (OkTs.pad hoL) hh (padL_length (by rw [hll]; exact hm)) hq hps hck (by omega) (fun i' h1 h2 => hpre i' (by omega) h2))])))
          refine g_yes hE rfl rfl ?_
          refine s_call hE rfl Tryd.call9 (works_c  _ (hM.get 11 rfl)) rfl ?_
          rintro e w22 ⟨rfl, hN⟩
          refine ⟨_, rfl, hN.sta0 _, ?_⟩; clear hE a; intro a hE
          replace hM : Mem _ _ w22 [_, _, _, _, _, _, _, _, _, _, _, _] := hM.call0 hN trivial; clear hN
          refine s_pickt hE rfl rfl rfl ?_; clear hE a; intro a hE
          refine s_assign hE rfl rfl ?_; clear hE a; intro a hE
          refine q_nil ?_
          replace hE : Env a 171 [(3, _), (4, _), (5, _), (6, _), (7, _), (9, _), (12, _), (14, _), (15, _), (23, _), (40, _), (50, _), (101, _), (120, _), (126, _), (138, _)] := hE.sel [3, 4, 5, 6, 7, 9, 12, 14, 15, 23, 40, 50, 101, 120, 126, 138] rfl
          refine hK23 _ _ ?_
          refine wp_ret ?_
          refine q_block_r ?_
          refine q_then_r ?_
          refine q_then_r ?_
          refine q_block_r ?_
          refine q_then_r ?_
          refine f_ret1 hE rfl rfl ?_
          exact ⟨(by first | rfl | (simp; done)), hM.pick [] rfl⟩
        · replace hE := hE'; clear hE'
          replace hb138 := of_decide_eq_true (not_false' hb138)
          refine wp_cond_false (hE.eval rfl) ?_
          refine wp_skip ?_
          refine q_block_n ?_
          refine hK21 _ _ ?_
          refine wp_plain [true, true, true] rfl rfl ?_
          refine s_move hE rfl rfl ?_; clear hE a; intro a hE
          refine s_bin hE rfl rfl (bin_sub (wrap_i64 (by omega) (by omega))) rfl ?_; clear hE a; intro a hE
          refine s_assign hE rfl rfl ?_; clear hE a; intro a hE
          refine q_nil ?_
          replace hE : Env a 171 [(3, _), (4, _), (5, _), (6, _), (7, _), (9, _), (12, _), (14, _), (15, _), (23, _), (40, _), (50, _), (101, _), (120, _), (126, _), (138, _)] := hE.sel [3, 4, 5, 6, 7, 9, 12, 14, 15, 23, 40, 50, 101, 120, 126, 138] rfl
          replace hE := hE.cast 15 rfl (show _ = Value.int .i64 ((h : Int) - 1 - (i + 1)) from (congrArg _ (by omega)))
          replace hM : Mem _ _ w18 [_, _, _, _, _, _, _, _, _, _, _, _] := hM.pick [0, 1, 2, 3, 4, 5, 6, 7, 8, 9, 10, 11] rfl
          exact ⟨i + 1, ⟨by omega, (fun j h1 h2 => (Nat.lt_or_ge j (h - i)).elim (fun h3 => by rw [show j = h - 1 - i by omega]; assumption) (fun h3 => hpre j h3 h2)), hE.sel [3, 4, 5, 6, 7, 9, 12, 14, 15, 23, 40, 50, 101, 120] rfl, hM⟩, by omega⟩
      · replace hE := hE'; clear hE'
        replace hb126 := of_decide_eq_false hb126
        refine wp_cond_false (hE.eval rfl) ?_
        refine wp_exit ?_
        refine q_then_e ?_
        refine q_then_e ?_
        refine q_block_x ?_
        refine hK17 _ _ ?_
        refine wp_seq_k (fun K21 hK21 => ?_)
        refine wp_plain [true, true, true, true, true, false, true, true] rfl rfl ?_
        refine s_fieldAddr hE rfl fo46_1 rfl ?_; clear hE a; intro a hE
        refine s_loadN hE rfl (hM.get 6 rfl) row34 rfl (by intro X h; cases h) rfl ?_; clear hE a; intro a hE
        refine s_loadN hE rfl (hM.get 1 rfl) row34 rfl (by intro X h; cases h) rfl ?_; clear hE a; intro a hE
        refine s_bin hE rfl rfl (eqa34 hl_tg (tagZ_len (OkTs.all (OkTs.pad (ok_take ho_ls))))).1 rfl ?_; clear hE a; intro a hE
        refine s_move hE rfl rfl ?_; clear hE a; intro a hE
        replace hE := hE.cast 168 rfl (show _ = Value.bool true from (congrArg Value.bool (decide_eq_true (prv_tag (OkTs.pad hoL) hh (padL_length (by rw [hll]; exact hm)) hq hps hck (fun i' h2 => hpre i' (by omega) h2)))))
        refine g_yes hE rfl rfl ?_
        refine s_call hE rfl Tryd.call9 (works_c  _ (hM.get 11 rfl)) rfl ?_
        rintro e w18 ⟨rfl, hN⟩
        refine ⟨_, rfl, trivial, ?_⟩; clear hE a; intro a hE
        replace hM : Mem _ _ w18 [_, _, _, _, _, _, _, _, _, _, _, _] := hM.call0 hN trivial; clear hN
        refine s_pickt hE rfl rfl rfl ?_; clear hE a; intro a hE
        refine s_assign hE rfl rfl ?_; clear hE a; intro a hE
        refine q_nil ?_
        replace hE : Env a 171 [(3, _), (4, _), (5, _), (6, _), (7, _), (9, _), (12, _), (14, _), (15, _), (23, _), (40, _), (50, _), (101, _), (120, _), (126, _)] := hE.sel [3, 4, 5, 6, 7, 9, 12, 14, 15, 23, 40, 50, 101, 120, 126] rfl
        refine hK21 _ _ ?_
        refine wp_ret ?_
        refine f_ret1 hE rfl rfl ?_
        exact ⟨(by first | rfl | (simp; done)), hM.pick [] rfl⟩
theorem treeProves_c (k : List UInt8) (y : Int) (v : Value) (ls : List (List UInt8)) (c : Nat) (z : Int) (tg : List UInt8) (vp : Value) (ps : List (List UInt8)) (cp : Nat) (tp : List UInt8) (w : World) (hG : (glb 0).holds w) (hl_k : k.length = 32) (hr_ls : (rd v 32 ls.length c (ls.flatMap bv)).holds w) (ho_ls : ∀ x, x ∈ ls → x.length = 32) (hl_tg : tg.length = 32) (hr_ps : (rd vp 64 ps.length cp (ps.flatMap bv)).holds w) (ho_ps : ∀ x, x ∈ ps → x.length = 64) (hl_tp : tp.length = 32) : Calls Tryd.prog 4 #[.agg (bv k).toArray, .agg ([[.int .i64 y], [v]] : List (List Value)).flatten.toArray, .agg ([[.int .i64 z], bv tg, [vp], bv tp] : List (List Value)).flatten.toArray] w fun e w' => e = .returned (.bool true) ∧ Mem w [] w' [] := by
  by_cases h1 : 5 < y ∧ y ≤ 12
  · exact treeProves_big k y v ls c z tg vp ps cp tp w hG hl_k hr_ls ho_ls hl_tg hr_ps ho_ps hl_tp h1
  · by_cases h2 : 1 ≤ y ∧ y ≤ 12
    · obtain ⟨h, rfl⟩ : ∃ h : Nat, y = (h : Int) := ⟨y.toNat, by omega⟩
      by_cases h3 : min ls.length 32 ≤ 2 ^ h
      · by_cases h4 : inN 0 (2 ^ h) z
        · obtain ⟨q, rfl⟩ : ∃ q : Nat, z = (q : Int) := ⟨z.toNat, by omega⟩
          exact treeProves_in k h v ls c q tg vp ps cp tp w hG hl_k hr_ls ho_ls hl_tg hr_ps ho_ps hl_tp (by omega) h3 (by omega)
        · exact treeProves_out k h v ls c z tg vp ps cp tp w hG hl_k hr_ls ho_ls hl_tg hr_ps ho_ps hl_tp (by omega) h3 h4
      · exact treeProves_no2 k h v ls c z tg vp ps cp tp w hG hl_k hr_ls ho_ls hl_tg hr_ps ho_ps hl_tp (by omega) h3
    · exact treeProves_no1 k y v ls c z tg vp ps cp tp w hG hl_k hr_ls ho_ls hl_tg hr_ps ho_ps hl_tp h2
set_option maxRecDepth 100000 in
theorem treeProves_lifted (os : Os) (started : os.Started) (H : Type) (enc : TypeId × Value → H) :
    ReturnsInHanded {} Tryd.checked os 4 .any (fun w args => (Rows.treeProvesSpec.pre enc Tryd.prog Tryd.f4 [] false w args ∧ laidMetH Tryd.prog Rows.treeProvesRow.laid w) ∧ sizedMet enc Tryd.prog Tryd.f4 (OpenSpec.ofChange Rows.treeProvesSpec) false w args) (Rows.treeProvesSpec.post enc Tryd.prog Tryd.f4 false true false false) := by
  refine law_liftedL (C := Tryd.checked) (fn := Tryd.f4) (l := Rows.treeProvesRow.laid) (by kernel_rfl) started (by kernel_rfl) Tryd.func4 rfl (fun ds hl => ?_) rfl Tryd.underlying4 (by kernel_rfl) (of_decide_eq_true (by kernel_rfl)) (by kernel_rfl)
    (ChangeSpec.witness_shaped (enc := enc) (C := Tryd.checked) (os := os) (X := fun w _ => laidMetH Tryd.prog Rows.treeProvesRow.laid w) false (World.laidAll Tryd.prog os Rows.treeProvesRow.laid) #[.agg (bv (List.replicate 32 0)).toArray, .agg ([Value.int .i64 0] ++ [Value.slice none 0 0]).toArray, .agg ([Value.int .i64 0] ++ bv (List.replicate 32 0) ++ [Value.slice none 0 0] ++ bv (List.replicate 32 0)).toArray] 8 (World.laidAll_os _ _ _) (World.shaped_of_ZipB (by kernel_rfl) (by kernel_rfl)) (by kernel_rfl) (by kernel_rfl) (by kernel_rfl) (by rw [MakeChecks.laidMetH_plain _ _ _ (by kernel_rfl)]; exact laidMet_laidAll _ (by kernel_rfl) (by kernel_rfl))) ?_
  · rw [Tryd.params4] at hl
    match ds, hl with
    | [_, _, _], _ => rfl
  · intro W base args ds ps hval hA hw hL
    have hG := glb_of_laid (P := Tryd.prog) (g := 0) (t := 123) (e := 102) (by kernel_rfl) (by kernel_rfl) Tryd.underlying123 Tryd.underlying102 (by kernel_rfl) (by kernel_rfl) (by kernel_rfl) (show laidMet Tryd.prog (_ :: _) W from hL)
    rw [Tryd.params4] at hA hval hw
    obtain ⟨v0, vs0, d0, ds0, p0, q0, hargs, rfl, rfl, h0, r0⟩ := trodAll_cons hA
    obtain ⟨v1, vs1, d1, ds1, p1, q1, rfl, rfl, rfl, h1, r1⟩ := trodAll_cons r0
    obtain ⟨v2, vs2, d2, ds2, p2, q2, rfl, rfl, rfl, h2, r2⟩ := trodAll_cons r1
    obtain ⟨rfl, rfl, rfl⟩ := trodAll_nil r2
    obtain rfl : args = #[v0, v1, v2] := by cases args; simp_all
    obtain ⟨a0, rfl, ha0⟩ := arg_arr8 Tryd.underlying23 Tryd.underlying5 (by kernel_rfl) (by kernel_rfl) (hval 0 23 v0 rfl rfl) h0 (fun m hm => hw m (by simp only [DataW.weightsEach, List.mem_append]; exact .inl hm))
    obtain ⟨cs1, rfl, hcs1⟩ := okWide_struct Tryd.underlying26 (hval 1 26 v1 rfl rfl)
    obtain ⟨_, _, hc1, ⟨y, rfl, hy1, hy2⟩, ⟨v, ls, c, rfl, hr_ls, ho_ls, hn_ls⟩⟩ := trod_of (dec_f2 (t := 26) (s := 2) (n0 := 1) (n1 := 1) Tryd.underlying26 (by kernel_rfl) (by kernel_rfl) rfl (dec_int Tryd.underlying3) (dec_rowsV (es := 32) (by_ := 32) Tryd.underlying24 (by kernel_rfl) (by kernel_rfl) (by decide) (dec_arr8 (n := 32) Tryd.underlying34 Tryd.underlying5 (by kernel_rfl) (by kernel_rfl)))) h1 (fun m hm => hw m (by simp only [DataW.weightsEach, List.mem_append]; exact .inr (.inl hm)))
    have ecs1 := agg_of hc1
    subst ecs1
    obtain ⟨cs2, rfl, hcs2⟩ := okWide_struct Tryd.underlying46 (hval 2 46 v2 rfl rfl)
    obtain ⟨_, _, _, _, hc2, ⟨z, rfl, hz1, hz2⟩, ⟨tg, rfl, hl_tg⟩, ⟨vp, ps, cp, rfl, hr_ps, ho_ps, hn_ps⟩, ⟨tp, rfl, hl_tp⟩⟩ := trod_of (dec_f4 (t := 46) (s := 66) (n0 := 1) (n1 := 32) (n2 := 1) (n3 := 32) (o2 := 33) (o3 := 34) Tryd.underlying46 (by kernel_rfl) (by kernel_rfl) rfl rfl rfl (dec_int Tryd.underlying3) (dec_arr8 (n := 32) Tryd.underlying34 Tryd.underlying5 (by kernel_rfl) (by kernel_rfl)) (dec_rowsV (es := 64) (by_ := 64) Tryd.underlying44 (by kernel_rfl) (by kernel_rfl) (by decide) (dec_arr8 (n := 64) Tryd.underlying52 Tryd.underlying5 (by kernel_rfl) (by kernel_rfl))) (dec_arr8 (n := 32) Tryd.underlying34 Tryd.underlying5 (by kernel_rfl) (by kernel_rfl))) h2 (fun m hm => hw m (by simp only [DataW.weightsEach, List.mem_append]; exact .inr (.inr (.inl hm))))
    have ecs2 := agg_of hc2
    subst ecs2
    have ef : ∀ (a b : List Value), ([a, b] : List (List Value)).flatten = a ++ b := fun a b => by simp
    have ef3 : ∀ (a b c : List Value), ([a, b, c] : List (List Value)).flatten = a ++ (b ++ c) := fun a b c => by simp
    have ef4 : ∀ (a b c d : List Value), ([a, b, c, d] : List (List Value)).flatten = a ++ (b ++ (c ++ d)) := fun a b c d => by simp
    exact (by have h := treeProves_c a0 y v ls c z tg vp ps cp tp W hG ha0 hr_ls ho_ls hl_tg hr_ps ho_ps hl_tp; rw [ef, ef4] at h; exact h)

/-- The row's statement. -/
theorem treeProves_row : Rows.TreeProvesSaid :=
  OpenClaim.holds_of_wide 4 Tryd.f4 rfl rfl rfl rfl rfl rfl rfl ⟨rfl, rfl, rfl, rfl, rfl⟩ rfl rfl rfl rfl rfl (by kernel_rfl) Tryd.func4 (by kernel_rfl)
    (of_decide_eq_true (by kernel_rfl)) (by unfold Func.isWrapper; first | (rw [if_pos (by decide +kernel)]; kernel_rfl) | (rw [if_neg (by decide +kernel)]; exact ⟨rfl, rfl⟩))
    (fun os started H enc _ => treeProves_lifted os started H enc)

/-- The statement: the row, its listed variable tied to the program's text. -/
theorem treeProves_holds : Rows.TreeProvesCardSaid :=
  Claim7.holds_tied_plain_at .later [] [.data] true (true, "3e37e367fa882af65b92501024ce61bfddfc4c8207345e6e4fc0786d0584de6e") false
    treeProves_row (fun _ h => by cases h) (by kernel_rfl) (fun _ h => by cases h) treeProves_row_tie rfl ⟨rfl, rfl⟩ (by kernel_rfl) rfl
    (fun f fn hf hfn => by
      obtain rfl : f = 4 := Option.some.inj ((show Tryd.prog.funcNamed "casemate/casematelaw18.TreeProves" = some 4 by kernel_rfl).symm.trans hf) |>.symm
      obtain rfl : fn = Tryd.f4 := (Option.some.inj (Tryd.func4.symm.trans hfn)).symm
      exact ⟨by kernel_rfl, fun j t ht => by
        rw [Tryd.params4] at ht
        have h : t ∈ [23, 26, 46] := by
          rcases j with _ | _ | _ | j
          · simp at ht; simp [ht]
          · simp at ht; simp [ht]
          · simp at ht; simp [ht]
          · simp at ht
        simp only [List.mem_cons, List.not_mem_nil, or_false] at h
        rcases h with rfl | rfl | rfl
        · exact (show Tryd.prog.wantsStandIn 23 = false by kernel_rfl)
        · exact (show Tryd.prog.wantsStandIn 26 = false by kernel_rfl)
        · exact (show Tryd.prog.wantsStandIn 46 = false by kernel_rfl)⟩)
    (by kernel_rfl)
#print axioms treeProves_holds
end Go.Proofs.YtacebdngbalkmaaDoor
