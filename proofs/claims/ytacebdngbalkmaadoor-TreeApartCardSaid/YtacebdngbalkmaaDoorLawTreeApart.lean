/- TreeApart of casematelaw18 returns true for whatever key, height, leaves, leaf, tags and proof; the slices read behind the call as before. No condition. -/
import Derived.Test.YtacebdngbalkmaaDoorLw
import Derived.Test.YtacebdngbalkmaaDoorTie
import Derived.Test.YtacebdngbalkmaaDoorCards
set_option linter.unusedSimpArgs false
set_option linter.unusedVariables false
namespace Go.Proofs.YtacebdngbalkmaaDoor
open Go Go.Kx
open Go.ChangeShapes Go.WideShapes Go.ChangeAt Go.RowKit
theorem fo26_0 : fieldOff Tryd.prog 26 0 = some 0 := by kernel_rfl
theorem fo26_1 : fieldOff Tryd.prog 26 1 = some 1 := by kernel_rfl
theorem fo46_0 : fieldOff Tryd.prog 46 0 = some 0 := by kernel_rfl
theorem fo46_1 : fieldOff Tryd.prog 46 1 = some 1 := by kernel_rfl
theorem eqa52 : ∀ {a b : List UInt8}, a.length = 64 → b.length = 64 → Bin Tryd.prog .eql 52 (.agg (bv a).toArray) (.agg (bv b).toArray) (.bool (decide (a = b))) ∧ Bin Tryd.prog .neq 52 (.agg (bv a).toArray) (.agg (bv b).toArray) (.bool (!decide (a = b))) := fun ha hb => bins_arr8 Tryd.underlying52 (by kernel_rfl) Tryd.underlying5 (by kernel_rfl) (by kernel_rfl) ha hb
set_option maxRecDepth 20000 in
theorem treeApart_big (k : List UInt8) (y : Int) (v : Value) (ls : List (List UInt8)) (c : Nat) (z : Int) (tg : List UInt8) (vp : Value) (ps : List (List UInt8)) (cp : Nat) (tp : List UInt8) (w : World) (hG : (glb 0).holds w) (hl_k : k.length = 32) (hr_ls : (rd v 32 ls.length c (ls.flatMap bv)).holds w) (ho_ls : ∀ x, x ∈ ls → x.length = 32) (hl_tg : tg.length = 32) (hr_ps : (rd vp 64 ps.length cp (ps.flatMap bv)).holds w) (ho_ps : ∀ x, x ∈ ps → x.length = 64) (hl_tp : tp.length = 32) (hh : 5 < y ∧ y ≤ 12) : Calls Tryd.prog 8 #[.agg (bv k).toArray, .agg ([[.int .i64 y], [v]] : List (List Value)).flatten.toArray, .agg ([[.int .i64 z], bv tg, [vp], bv tp] : List (List Value)).flatten.toArray] w fun e w' => e = .returned (.bool true) ∧ Mem w [] w' [] := by
  have hM : Mem w [] w [rd v 32 ls.length c (ls.flatMap bv), rd vp 64 ps.length cp (ps.flatMap bv), glb 0] := Mem.startR w (fun g hg => by
    simp only [List.mem_cons, List.not_mem_nil, or_false] at hg
    rcases hg with rfl | rfl | rfl
    · exact ⟨hr_ls, rfl⟩
    · exact ⟨hr_ps, rfl⟩
    · exact ⟨hG, rfl⟩)
  refine f_enter 166 Tryd.func8 rfl rfl rfl ?_
  intro a hE
  replace hE : Env a 166 [(0, _), (1, _), (2, _)] := hE
  refine wp_seq_k (fun K1 hK1 => ?_)
  refine wp_plain [false, false, false, true] rfl rfl ?_
  refine s_box (ss := [bv k]) [32] hE hM rfl (by simp [Value.cells]) (by simp [*]) rfl ?_; clear hE a; intro a b3 w1 hE hM'
  clear hM; have hM := hM'; clear hM'
  refine s_box (ss := [[.int .i64 y], [v]]) [1, 1] hE hM rfl rfl (by simp [*]) rfl ?_; clear hE a; intro a b4 w2 hE hM'
  clear hM; have hM := hM'; clear hM'
  refine s_box (ss := [[.int .i64 z], bv tg, [vp], bv tp]) [1, 32, 1, 32] hE hM rfl rfl (by simp [*]) rfl ?_; clear hE a; intro a b5 w3 hE hM'
  clear hM; have hM := hM'; clear hM'
  refine s_assign hE rfl rfl ?_; clear hE a; intro a hE
  refine q_nil ?_
  replace hE : Env a 166 [(3, _), (4, _), (5, _), (6, _)] := hE.sel [3, 4, 5, 6] rfl
  refine hK1 _ _ ?_
  refine wp_seq_k (fun K2 hK2 => ?_)
  refine wp_seq_k (fun K3 hK3 => ?_)
  refine wp_plain [true, true, true, true, true, true, true, true] rfl rfl ?_
  refine s_fieldAddr hE rfl fo26_0 rfl ?_; clear hE a; intro a hE
  refine s_load1 hE rfl (hM.get 1 rfl) rfl one3 (by intro X h; cases h) rfl ?_; clear hE a; intro a hE
  refine s_bin hE rfl rfl bin_gtr rfl ?_; clear hE a; intro a hE
  refine s_move hE rfl rfl ?_; clear hE a; intro a hE
  replace hE := hE.cast 26 rfl (show _ = Value.bool true from (congrArg Value.bool (decide_eq_true (by omega))))
  refine g_yes hE rfl rfl ?_
  refine s_fieldAddr hE rfl fo26_0 rfl ?_; clear hE a; intro a hE
  refine g_yes hE rfl rfl ?_
  refine s_load1 hE rfl (hM.get 1 rfl) rfl one3 (by intro X h; cases h) rfl ?_; clear hE a; intro a hE
  refine g_yes hE rfl rfl ?_
  refine s_bin hE rfl rfl bin_leq rfl ?_; clear hE a; intro a hE
  refine s_pickt hE rfl rfl rfl ?_; clear hE a; intro a hE
  refine q_nil ?_
  replace hE : Env a 166 [(3, _), (4, _), (5, _), (6, _), (30, _)] := hE.sel [3, 4, 5, 6, 30] rfl
  refine hK3 _ _ ?_
  replace hE := hE.cast 30 rfl (show _ = Value.bool true from (congrArg Value.bool (decide_eq_true (by omega))))
  refine wp_cond_true (hE.eval rfl) ?_
  refine wp_seq_k (fun K4 hK4 => ?_)
  refine wp_plain [false, true] rfl rfl ?_
  refine s_call hE rfl Tryd.call9 (works_c  _ (hM.get 5 rfl)) rfl ?_
  rintro e w4 ⟨rfl, hN⟩
  refine ⟨_, rfl, trivial, ?_⟩; clear hE a; intro a hE
  replace hM : Mem _ _ w4 [_, _, _, _, _, _] := hM.call0 hN trivial; clear hN
  refine s_assign hE rfl rfl ?_; clear hE a; intro a hE
  refine q_nil ?_
  replace hE : Env a 166 [(3, _), (4, _), (5, _), (6, _), (30, _)] := hE.sel [3, 4, 5, 6, 30] rfl
  refine hK4 _ _ ?_
  refine wp_ret ?_
  refine q_then_r ?_
  refine f_ret1 hE rfl rfl ?_
  exact ⟨(by first | rfl | (simp; done)), hM.pick [] rfl⟩
set_option maxRecDepth 20000 in
theorem treeApart_no1 (k : List UInt8) (y : Int) (v : Value) (ls : List (List UInt8)) (c : Nat) (z : Int) (tg : List UInt8) (vp : Value) (ps : List (List UInt8)) (cp : Nat) (tp : List UInt8) (w : World) (hG : (glb 0).holds w) (hl_k : k.length = 32) (hr_ls : (rd v 32 ls.length c (ls.flatMap bv)).holds w) (ho_ls : ∀ x, x ∈ ls → x.length = 32) (hl_tg : tg.length = 32) (hr_ps : (rd vp 64 ps.length cp (ps.flatMap bv)).holds w) (ho_ps : ∀ x, x ∈ ps → x.length = 64) (hl_tp : tp.length = 32) (hh : ¬ (1 ≤ y ∧ y ≤ 12)) : Calls Tryd.prog 8 #[.agg (bv k).toArray, .agg ([[.int .i64 y], [v]] : List (List Value)).flatten.toArray, .agg ([[.int .i64 z], bv tg, [vp], bv tp] : List (List Value)).flatten.toArray] w fun e w' => e = .returned (.bool true) ∧ Mem w [] w' [] := by
  have hll : (ls.take (min ls.length 32)).length = min ls.length 32 := by rw [List.length_take]; omega
  have hoL : OkTs (ls.take (min ls.length 32)) := fun x hx => ho_ls x (List.mem_of_mem_take hx)
  have hM : Mem w [] w [rd v 32 ls.length c (ls.flatMap bv), rd vp 64 ps.length cp (ps.flatMap bv), glb 0] := Mem.startR w (fun g hg => by
    simp only [List.mem_cons, List.not_mem_nil, or_false] at hg
    rcases hg with rfl | rfl | rfl
    · exact ⟨hr_ls, rfl⟩
    · exact ⟨hr_ps, rfl⟩
    · exact ⟨hG, rfl⟩)
  refine f_enter 166 Tryd.func8 rfl rfl rfl ?_
  intro a hE
  replace hE : Env a 166 [(0, _), (1, _), (2, _)] := hE
  refine wp_seq_k (fun K1 hK1 => ?_)
  refine wp_plain [false, false, false, true] rfl rfl ?_
  refine s_box (ss := [bv k]) [32] hE hM rfl (by simp [Value.cells]) (by simp [*]) rfl ?_; clear hE a; intro a b3 w1 hE hM'
  clear hM; have hM := hM'; clear hM'
  refine s_box (ss := [[.int .i64 y], [v]]) [1, 1] hE hM rfl rfl (by simp [*]) rfl ?_; clear hE a; intro a b4 w2 hE hM'
  clear hM; have hM := hM'; clear hM'
  refine s_box (ss := [[.int .i64 z], bv tg, [vp], bv tp]) [1, 32, 1, 32] hE hM rfl rfl (by simp [*]) rfl ?_; clear hE a; intro a b5 w3 hE hM'
  clear hM; have hM := hM'; clear hM'
  refine s_assign hE rfl rfl ?_; clear hE a; intro a hE
  refine q_nil ?_
  replace hE : Env a 166 [(3, _), (4, _), (5, _), (6, _)] := hE.sel [3, 4, 5, 6] rfl
  refine hK1 _ _ ?_
  refine wp_seq_k (fun K2 hK2 => ?_)
  refine wp_seq_k (fun K3 hK3 => ?_)
  refine wp_plain [true, true, true, true, true, true, true, true] rfl rfl ?_
  refine s_fieldAddr hE rfl fo26_0 rfl ?_; clear hE a; intro a hE
  refine s_load1 hE rfl (hM.get 1 rfl) rfl one3 (by intro X h; cases h) rfl ?_; clear hE a; intro a hE
  refine s_bin hE rfl rfl bin_gtr rfl ?_; clear hE a; intro a hE
  refine s_move hE rfl rfl ?_; clear hE a; intro a hE
  refine hE.split 26 rfl (fun hb26 hE' => ?_) (fun hb26 hE' => ?_)
  · replace hE := hE'; clear hE'
    replace hb26 := of_decide_eq_true hb26
    refine g_yes hE rfl rfl ?_
    refine s_fieldAddr hE rfl fo26_0 rfl ?_; clear hE a; intro a hE
    refine g_yes hE rfl rfl ?_
    refine s_load1 hE rfl (hM.get 1 rfl) rfl one3 (by intro X h; cases h) rfl ?_; clear hE a; intro a hE
    refine g_yes hE rfl rfl ?_
    refine s_bin hE rfl rfl bin_leq rfl ?_; clear hE a; intro a hE
    refine s_pickt hE rfl rfl rfl ?_; clear hE a; intro a hE
    refine q_nil ?_
    replace hE : Env a 166 [(3, _), (4, _), (5, _), (6, _), (30, _)] := hE.sel [3, 4, 5, 6, 30] rfl
    refine hK3 _ _ ?_
    refine hE.split 30 rfl (fun hb30 hE' => ?_) (fun hb30 hE' => ?_)
    · replace hE := hE'; clear hE'
      replace hb30 := of_decide_eq_true hb30
      refine wp_cond_true (hE.eval rfl) ?_
      refine wp_seq_k (fun K4 hK4 => ?_)
      refine wp_plain [false, true] rfl rfl ?_
      refine s_call hE rfl Tryd.call9 (works_c  _ (hM.get 5 rfl)) rfl ?_
      rintro e w4 ⟨rfl, hN⟩
      refine ⟨_, rfl, trivial, ?_⟩; clear hE a; intro a hE
      replace hM : Mem _ _ w4 [_, _, _, _, _, _] := hM.call0 hN trivial; clear hN
      refine s_assign hE rfl rfl ?_; clear hE a; intro a hE
      refine q_nil ?_
      replace hE : Env a 166 [(3, _), (4, _), (5, _), (6, _), (30, _)] := hE.sel [3, 4, 5, 6, 30] rfl
      refine hK4 _ _ ?_
      refine wp_ret ?_
      refine q_then_r ?_
      refine f_ret1 hE rfl rfl ?_
      exact ⟨(by first | rfl | (simp; done)), hM.pick [] rfl⟩
    · replace hE := hE'; clear hE'
      replace hb30 := of_decide_eq_false hb30
      refine wp_cond_false (hE.eval rfl) ?_
      refine wp_skip ?_
      refine hK2 _ _ ?_
      refine wp_seq_k (fun K4 hK4 => ?_)
      refine wp_drawnM hM (by kernel_rfl) (fun _ => False) [(0, true), (1, true), (2, true), (3, true), (4, true), (5, true), (6, true), (7, true), (8, true), (9, true), (10, false), (11, true), (12, true), (13, true), (14, true), (15, true)] [(10, [(11, 10), (12, 11), (13, 11), (14, 10), (15, 10)])] (by kernel_rfl) rfl ?_
      intro w4 hM' hww4; clear hM; have hM := hM'; clear hM'
      refine s_loadN hE rfl (hM.get 2 rfl) row23 rfl (by intro X h; cases h; simp) rfl ?_; clear hE a; intro a hE
      refine s_fieldAddr hE rfl fo26_0 rfl ?_; clear hE a; intro a hE
      refine s_load1 hE rfl (hM.get 1 rfl) rfl one3 (by intro X h; cases h; simp) rfl ?_; clear hE a; intro a hE
      refine s_fieldAddr hE rfl fo26_1 rfl ?_; clear hE a; intro a hE
      refine s_load1 hE rfl (hM.get 1 rfl) rfl one24 (by intro X h; cases h; simp) rfl ?_; clear hE a; intro a hE
      refine s_fieldAddr hE rfl fo26_1 rfl ?_; clear hE a; intro a hE
      refine s_load1 hE rfl (hM.get 1 rfl) rfl one24 (by intro X h; cases h; simp) rfl ?_; clear hE a; intro a hE
      refine s_len hE rfl Tryd.underlying24 (rd_slice (hM.get 3 rfl)) rfl ?_; clear hE a; intro a hE
      refine s_min hE rfl rfl rfl ?_; clear hE a; intro a hE
      replace hE := hE.cast 41 rfl (show _ = Value.int .i64 ((min ls.length 32 : Nat) : Int) from congrArg (Value.int .i64) (by split <;> omega))
      have hcap42 := rd_len (hM.get 3 rfl)
      refine s_slice (l := 0) (h := min ls.length 32) (mx' := c) hE rfl (hM.get 3 rfl) slt24 rfl ⟨_, rfl⟩ rfl (by simp) (Nat.zero_le _) (by first | omega | (simp; omega) | decide +kernel) (by first | omega | (simp; omega) | decide +kernel) (Nat.le_refl _) rfl ?_; clear hE a; intro a v42 hE hr42 hvb42
      replace hr42 := rd_takeR (f := bv) (ls := ls) (fun x hx => ((bv_length _).trans (ho_ls x hx))) (by first | omega | (simp; omega) | decide +kernel) hr42
      replace hM := hM.addPart 3 rfl hr42 hvb42; clear hr42
      refine s_call hE rfl Tryd.call10 (tnew_no1 k y _ (ls.take (min ls.length 32)) _ _ hl_k (hM.get 0 rfl) (ok_take ho_ls) (by omega)) rfl ?_
      rintro e w5 ⟨rfl, hN⟩
      refine ⟨_, rfl, hN.sta0 _, ?_⟩; clear hE a; intro a hE
      replace hM : Mem _ _ w5 [_, _, _, _, _, _, _] := hM.call0 hN trivial; clear hN
      refine s_move hE rfl rfl ?_; clear hE a; intro a hE
      refine s_extract hE rfl rfl rfl ?_; clear hE a; intro a hE
      refine s_extract hE rfl rfl rfl ?_; clear hE a; intro a hE
      refine s_assign hE rfl rfl ?_; clear hE a; intro a hE
      refine s_assign hE rfl rfl ?_; clear hE a; intro a hE
      refine q_nil ?_
      replace hE : Env a 166 [(3, _), (4, _), (5, _), (6, _), (7, _), (8, _), (30, _)] := hE.sel [3, 4, 5, 6, 7, 8, 30] rfl
      refine hK4 _ _ ?_
      refine wp_seq_k (fun K5 hK5 => ?_)
      refine wp_drawnM hM (by kernel_rfl) (fun _ => False) [(0, true), (1, true), (2, true), (3, true), (4, true), (5, true), (6, true), (7, true), (8, true), (9, true), (10, false), (11, true), (12, true), (13, true), (14, true), (15, true)] [(10, [(11, 10), (12, 11), (13, 11), (14, 10), (15, 10)])] (by kernel_rfl) rfl ?_
      intro w6 hM' hww6; clear hM; have hM := hM'; clear hM'
      refine s_loadN hE rfl (hM.get 3 rfl) row23 rfl (by intro X h; cases h; simp) rfl ?_; clear hE a; intro a hE
      refine s_fieldAddr hE rfl fo26_0 rfl ?_; clear hE a; intro a hE
      refine s_load1 hE rfl (hM.get 2 rfl) rfl one3 (by intro X h; cases h; simp) rfl ?_; clear hE a; intro a hE
      refine s_fieldAddr hE rfl fo26_1 rfl ?_; clear hE a; intro a hE
      refine s_load1 hE rfl (hM.get 2 rfl) rfl one24 (by intro X h; cases h; simp) rfl ?_; clear hE a; intro a hE
      refine s_fieldAddr hE rfl fo26_1 rfl ?_; clear hE a; intro a hE
      refine s_load1 hE rfl (hM.get 2 rfl) rfl one24 (by intro X h; cases h; simp) rfl ?_; clear hE a; intro a hE
      refine s_len hE rfl Tryd.underlying24 (rd_slice (hM.get 4 rfl)) rfl ?_; clear hE a; intro a hE
      refine s_min hE rfl rfl rfl ?_; clear hE a; intro a hE
      replace hE := hE.cast 55 rfl (show _ = Value.int .i64 ((min ls.length 32 : Nat) : Int) from congrArg (Value.int .i64) (by split <;> omega))
      have hcap56 := rd_len (hM.get 4 rfl)
      refine s_slice (l := 0) (h := min ls.length 32) (mx' := c) hE rfl (hM.get 4 rfl) slt24 rfl ⟨_, rfl⟩ rfl (by simp) (Nat.zero_le _) (by first | omega | (simp; omega) | decide +kernel) (by first | omega | (simp; omega) | decide +kernel) (Nat.le_refl _) rfl ?_; clear hE a; intro a v56 hE hr56 hvb56
      replace hr56 := rd_takeR (f := bv) (ls := ls) (fun x hx => ((bv_length _).trans (ho_ls x hx))) (by first | omega | (simp; omega) | decide +kernel) hr56
      replace hM := hM.addPart 4 rfl hr56 hvb56; clear hr56
      refine s_call hE rfl Tryd.call10 (tnew_no1 k y _ (ls.take (min ls.length 32)) _ _ hl_k (hM.get 0 rfl) (ok_take ho_ls) (by omega)) rfl ?_
      rintro e w7 ⟨rfl, hN⟩
      refine ⟨_, rfl, hN.sta0 _, ?_⟩; clear hE a; intro a hE
      replace hM : Mem _ _ w7 [_, _, _, _, _, _, _, _] := hM.call0 hN trivial; clear hN
      refine s_move hE rfl rfl ?_; clear hE a; intro a hE
      refine s_extract hE rfl rfl rfl ?_; clear hE a; intro a hE
      refine s_extract hE rfl rfl rfl ?_; clear hE a; intro a hE
      refine s_assign hE rfl rfl ?_; clear hE a; intro a hE
      refine s_assign hE rfl rfl ?_; clear hE a; intro a hE
      refine q_nil ?_
      replace hE : Env a 166 [(3, _), (4, _), (5, _), (6, _), (7, _), (8, _), (9, _), (10, _), (30, _)] := hE.sel [3, 4, 5, 6, 7, 8, 9, 10, 30] rfl
      refine hK5 _ _ ?_
      refine wp_seq_k (fun K6 hK6 => ?_)
      refine wp_seq_k (fun K7 hK7 => ?_)
      refine wp_plain [true, true, true] rfl rfl ?_
      refine s_move hE rfl rfl ?_; clear hE a; intro a hE
      refine s_move hE rfl rfl ?_; clear hE a; intro a hE
      refine s_bin hE rfl rfl bin_neq rfl ?_; clear hE a; intro a hE
      replace hE := hE.cast 62 rfl (show _ = Value.bool false from (congrArg Value.bool (by decide)))
      refine q_nil ?_
      replace hE : Env a 166 [(3, _), (4, _), (5, _), (6, _), (7, _), (8, _), (9, _), (30, _), (62, _)] := hE.sel [3, 4, 5, 6, 7, 8, 9, 30, 62] rfl
      refine hK7 _ _ ?_
      refine wp_cond_false (hE.eval rfl) ?_
      refine wp_skip ?_
      refine hK6 _ _ ?_
      refine wp_seq_k (fun K8 hK8 => ?_)
      refine wp_seq_k (fun K9 hK9 => ?_)
      refine wp_plain [true, true] rfl rfl ?_
      refine s_move hE rfl rfl ?_; clear hE a; intro a hE
      refine s_bin hE rfl rfl bin_neq rfl ?_; clear hE a; intro a hE
      replace hE := hE.cast 64 rfl (show _ = Value.bool true from (congrArg Value.bool (by decide)))
      refine q_nil ?_
      replace hE : Env a 166 [(3, _), (4, _), (5, _), (6, _), (7, _), (8, _), (9, _), (30, _), (62, _), (64, _)] := hE.sel [3, 4, 5, 6, 7, 8, 9, 30, 62, 64] rfl
      refine hK9 _ _ ?_
      refine wp_cond_true (hE.eval rfl) ?_
      refine wp_seq_k (fun K10 hK10 => ?_)
      refine wp_plain [false, true] rfl rfl ?_
      refine s_call hE rfl Tryd.call9 (works_c  _ (hM.get 7 rfl)) rfl ?_
      rintro e w8 ⟨rfl, hN⟩
      refine ⟨_, rfl, trivial, ?_⟩; clear hE a; intro a hE
      replace hM : Mem _ _ w8 [_, _, _, _, _, _, _, _] := hM.call0 hN trivial; clear hN
      refine s_assign hE rfl rfl ?_; clear hE a; intro a hE
      refine q_nil ?_
      replace hE : Env a 166 [(3, _), (4, _), (5, _), (6, _), (7, _), (8, _), (9, _), (30, _), (62, _), (64, _)] := hE.sel [3, 4, 5, 6, 7, 8, 9, 30, 62, 64] rfl
      refine hK10 _ _ ?_
      refine wp_ret ?_
      refine q_then_r ?_
      refine f_ret1 hE rfl rfl ?_
      exact ⟨(by first | rfl | (simp; done)), hM.pick [] rfl⟩
  · replace hE := hE'; clear hE'
    replace hb26 := of_decide_eq_false hb26
    refine g_no (b := false) hE rfl rfl rfl ?_; clear hE a; intro a hE
    refine g_no (b := false) hE rfl rfl rfl ?_; clear hE a; intro a hE
    refine g_no (b := false) hE rfl rfl rfl ?_; clear hE a; intro a hE
    refine s_pickf hE rfl rfl rfl ?_; clear hE a; intro a hE
    refine q_nil ?_
    replace hE : Env a 166 [(3, _), (4, _), (5, _), (6, _), (30, _)] := hE.sel [3, 4, 5, 6, 30] rfl
    refine hK3 _ _ ?_
    refine wp_cond_false (hE.eval rfl) ?_
    refine wp_skip ?_
    refine hK2 _ _ ?_
    refine wp_seq_k (fun K4 hK4 => ?_)
    refine wp_drawnM hM (by kernel_rfl) (fun _ => False) [(0, true), (1, true), (2, true), (3, true), (4, true), (5, true), (6, true), (7, true), (8, true), (9, true), (10, false), (11, true), (12, true), (13, true), (14, true), (15, true)] [(10, [(11, 10), (12, 11), (13, 11), (14, 10), (15, 10)])] (by kernel_rfl) rfl ?_
    intro w4 hM' hww4; clear hM; have hM := hM'; clear hM'
    refine s_loadN hE rfl (hM.get 2 rfl) row23 rfl (by intro X h; cases h; simp) rfl ?_; clear hE a; intro a hE
    refine s_fieldAddr hE rfl fo26_0 rfl ?_; clear hE a; intro a hE
    refine s_load1 hE rfl (hM.get 1 rfl) rfl one3 (by intro X h; cases h; simp) rfl ?_; clear hE a; intro a hE
    refine s_fieldAddr hE rfl fo26_1 rfl ?_; clear hE a; intro a hE
    refine s_load1 hE rfl (hM.get 1 rfl) rfl one24 (by intro X h; cases h; simp) rfl ?_; clear hE a; intro a hE
    refine s_fieldAddr hE rfl fo26_1 rfl ?_; clear hE a; intro a hE
    refine s_load1 hE rfl (hM.get 1 rfl) rfl one24 (by intro X h; cases h; simp) rfl ?_; clear hE a; intro a hE
    refine s_len hE rfl Tryd.underlying24 (rd_slice (hM.get 3 rfl)) rfl ?_; clear hE a; intro a hE
    refine s_min hE rfl rfl rfl ?_; clear hE a; intro a hE
    replace hE := hE.cast 41 rfl (show _ = Value.int .i64 ((min ls.length 32 : Nat) : Int) from congrArg (Value.int .i64) (by split <;> omega))
    have hcap42 := rd_len (hM.get 3 rfl)
    refine s_slice (l := 0) (h := min ls.length 32) (mx' := c) hE rfl (hM.get 3 rfl) slt24 rfl ⟨_, rfl⟩ rfl (by simp) (Nat.zero_le _) (by first | omega | (simp; omega) | decide +kernel) (by first | omega | (simp; omega) | decide +kernel) (Nat.le_refl _) rfl ?_; clear hE a; intro a v42 hE hr42 hvb42
    replace hr42 := rd_takeR (f := bv) (ls := ls) (fun x hx => ((bv_length _).trans (ho_ls x hx))) (by first | omega | (simp; omega) | decide +kernel) hr42
    replace hM := hM.addPart 3 rfl hr42 hvb42; clear hr42
    refine s_call hE rfl Tryd.call10 (tnew_no1 k y _ (ls.take (min ls.length 32)) _ _ hl_k (hM.get 0 rfl) (ok_take ho_ls) (by omega)) rfl ?_
    rintro e w5 ⟨rfl, hN⟩
    refine ⟨_, rfl, hN.sta0 _, ?_⟩; clear hE a; intro a hE
    replace hM : Mem _ _ w5 [_, _, _, _, _, _, _] := hM.call0 hN trivial; clear hN
    refine s_move hE rfl rfl ?_; clear hE a; intro a hE
    refine s_extract hE rfl rfl rfl ?_; clear hE a; intro a hE
    refine s_extract hE rfl rfl rfl ?_; clear hE a; intro a hE
    refine s_assign hE rfl rfl ?_; clear hE a; intro a hE
    refine s_assign hE rfl rfl ?_; clear hE a; intro a hE
    refine q_nil ?_
    replace hE : Env a 166 [(3, _), (4, _), (5, _), (6, _), (7, _), (8, _), (30, _)] := hE.sel [3, 4, 5, 6, 7, 8, 30] rfl
    refine hK4 _ _ ?_
    refine wp_seq_k (fun K5 hK5 => ?_)
    refine wp_drawnM hM (by kernel_rfl) (fun _ => False) [(0, true), (1, true), (2, true), (3, true), (4, true), (5, true), (6, true), (7, true), (8, true), (9, true), (10, false), (11, true), (12, true), (13, true), (14, true), (15, true)] [(10, [(11, 10), (12, 11), (13, 11), (14, 10), (15, 10)])] (by kernel_rfl) rfl ?_
    intro w6 hM' hww6; clear hM; have hM := hM'; clear hM'
    refine s_loadN hE rfl (hM.get 3 rfl) row23 rfl (by intro X h; cases h; simp) rfl ?_; clear hE a; intro a hE
    refine s_fieldAddr hE rfl fo26_0 rfl ?_; clear hE a; intro a hE
    refine s_load1 hE rfl (hM.get 2 rfl) rfl one3 (by intro X h; cases h; simp) rfl ?_; clear hE a; intro a hE
    refine s_fieldAddr hE rfl fo26_1 rfl ?_; clear hE a; intro a hE
    refine s_load1 hE rfl (hM.get 2 rfl) rfl one24 (by intro X h; cases h; simp) rfl ?_; clear hE a; intro a hE
    refine s_fieldAddr hE rfl fo26_1 rfl ?_; clear hE a; intro a hE
    refine s_load1 hE rfl (hM.get 2 rfl) rfl one24 (by intro X h; cases h; simp) rfl ?_; clear hE a; intro a hE
    refine s_len hE rfl Tryd.underlying24 (rd_slice (hM.get 4 rfl)) rfl ?_; clear hE a; intro a hE
    refine s_min hE rfl rfl rfl ?_; clear hE a; intro a hE
    replace hE := hE.cast 55 rfl (show _ = Value.int .i64 ((min ls.length 32 : Nat) : Int) from congrArg (Value.int .i64) (by split <;> omega))
    have hcap56 := rd_len (hM.get 4 rfl)
    refine s_slice (l := 0) (h := min ls.length 32) (mx' := c) hE rfl (hM.get 4 rfl) slt24 rfl ⟨_, rfl⟩ rfl (by simp) (Nat.zero_le _) (by first | omega | (simp; omega) | decide +kernel) (by first | omega | (simp; omega) | decide +kernel) (Nat.le_refl _) rfl ?_; clear hE a; intro a v56 hE hr56 hvb56
    replace hr56 := rd_takeR (f := bv) (ls := ls) (fun x hx => ((bv_length _).trans (ho_ls x hx))) (by first | omega | (simp; omega) | decide +kernel) hr56
    replace hM := hM.addPart 4 rfl hr56 hvb56; clear hr56
    refine s_call hE rfl Tryd.call10 (tnew_no1 k y _ (ls.take (min ls.length 32)) _ _ hl_k (hM.get 0 rfl) (ok_take ho_ls) (by omega)) rfl ?_
    rintro e w7 ⟨rfl, hN⟩
    refine ⟨_, rfl, hN.sta0 _, ?_⟩; clear hE a; intro a hE
    replace hM : Mem _ _ w7 [_, _, _, _, _, _, _, _] := hM.call0 hN trivial; clear hN
    refine s_move hE rfl rfl ?_; clear hE a; intro a hE
    refine s_extract hE rfl rfl rfl ?_; clear hE a; intro a hE
    refine s_extract hE rfl rfl rfl ?_; clear hE a; intro a hE
    refine s_assign hE rfl rfl ?_; clear hE a; intro a hE
    refine s_assign hE rfl rfl ?_; clear hE a; intro a hE
    refine q_nil ?_
    replace hE : Env a 166 [(3, _), (4, _), (5, _), (6, _), (7, _), (8, _), (9, _), (10, _), (30, _)] := hE.sel [3, 4, 5, 6, 7, 8, 9, 10, 30] rfl
    refine hK5 _ _ ?_
    refine wp_seq_k (fun K6 hK6 => ?_)
    refine wp_seq_k (fun K7 hK7 => ?_)
    refine wp_plain [true, true, true] rfl rfl ?_
    refine s_move hE rfl rfl ?_; clear hE a; intro a hE
    refine s_move hE rfl rfl ?_; clear hE a; intro a hE
    refine s_bin hE rfl rfl bin_neq rfl ?_; clear hE a; intro a hE
    replace hE := hE.cast 62 rfl (show _ = Value.bool false from (congrArg Value.bool (by decide)))
    refine q_nil ?_
    replace hE : Env a 166 [(3, _), (4, _), (5, _), (6, _), (7, _), (8, _), (9, _), (30, _), (62, _)] := hE.sel [3, 4, 5, 6, 7, 8, 9, 30, 62] rfl
    refine hK7 _ _ ?_
    refine wp_cond_false (hE.eval rfl) ?_
    refine wp_skip ?_
    refine hK6 _ _ ?_
    refine wp_seq_k (fun K8 hK8 => ?_)
    refine wp_seq_k (fun K9 hK9 => ?_)
    refine wp_plain [true, true] rfl rfl ?_
    refine s_move hE rfl rfl ?_; clear hE a; intro a hE
    refine s_bin hE rfl rfl bin_neq rfl ?_; clear hE a; intro a hE
    replace hE := hE.cast 64 rfl (show _ = Value.bool true from (congrArg Value.bool (by decide)))
    refine q_nil ?_
    replace hE : Env a 166 [(3, _), (4, _), (5, _), (6, _), (7, _), (8, _), (9, _), (30, _), (62, _), (64, _)] := hE.sel [3, 4, 5, 6, 7, 8, 9, 30, 62, 64] rfl
    refine hK9 _ _ ?_
    refine wp_cond_true (hE.eval rfl) ?_
    refine wp_seq_k (fun K10 hK10 => ?_)
    refine wp_plain [false, true] rfl rfl ?_
    refine s_call hE rfl Tryd.call9 (works_c  _ (hM.get 7 rfl)) rfl ?_
    rintro e w8 ⟨rfl, hN⟩
    refine ⟨_, rfl, trivial, ?_⟩; clear hE a; intro a hE
    replace hM : Mem _ _ w8 [_, _, _, _, _, _, _, _] := hM.call0 hN trivial; clear hN
    refine s_assign hE rfl rfl ?_; clear hE a; intro a hE
    refine q_nil ?_
    replace hE : Env a 166 [(3, _), (4, _), (5, _), (6, _), (7, _), (8, _), (9, _), (30, _), (62, _), (64, _)] := hE.sel [3, 4, 5, 6, 7, 8, 9, 30, 62, 64] rfl
    refine hK10 _ _ ?_
    refine wp_ret ?_
    refine q_then_r ?_
    refine f_ret1 hE rfl rfl ?_
    exact ⟨(by first | rfl | (simp; done)), hM.pick [] rfl⟩
set_option maxRecDepth 20000 in
theorem treeApart_no2 (k : List UInt8) (h : Nat) (v : Value) (ls : List (List UInt8)) (c : Nat) (z : Int) (tg : List UInt8) (vp : Value) (ps : List (List UInt8)) (cp : Nat) (tp : List UInt8) (w : World) (hG : (glb 0).holds w) (hl_k : k.length = 32) (hr_ls : (rd v 32 ls.length c (ls.flatMap bv)).holds w) (ho_ls : ∀ x, x ∈ ls → x.length = 32) (hl_tg : tg.length = 32) (hr_ps : (rd vp 64 ps.length cp (ps.flatMap bv)).holds w) (ho_ps : ∀ x, x ∈ ps → x.length = 64) (hl_tp : tp.length = 32) (hh5 : 1 ≤ h ∧ h ≤ 5) (hm : ¬ min ls.length 32 ≤ 2 ^ h) : Calls Tryd.prog 8 #[.agg (bv k).toArray, .agg ([[.int .i64 ((h : Nat) : Int)], [v]] : List (List Value)).flatten.toArray, .agg ([[.int .i64 z], bv tg, [vp], bv tp] : List (List Value)).flatten.toArray] w fun e w' => e = .returned (.bool true) ∧ Mem w [] w' [] := by
  have hll : (ls.take (min ls.length 32)).length = min ls.length 32 := by rw [List.length_take]; omega
  have hoL : OkTs (ls.take (min ls.length 32)) := fun x hx => ho_ls x (List.mem_of_mem_take hx)
  have hM : Mem w [] w [rd v 32 ls.length c (ls.flatMap bv), rd vp 64 ps.length cp (ps.flatMap bv), glb 0] := Mem.startR w (fun g hg => by
    simp only [List.mem_cons, List.not_mem_nil, or_false] at hg
    rcases hg with rfl | rfl | rfl
    · exact ⟨hr_ls, rfl⟩
    · exact ⟨hr_ps, rfl⟩
    · exact ⟨hG, rfl⟩)
  refine f_enter 166 Tryd.func8 rfl rfl rfl ?_
  intro a hE
  replace hE : Env a 166 [(0, _), (1, _), (2, _)] := hE
  refine wp_seq_k (fun K1 hK1 => ?_)
  refine wp_plain [false, false, false, true] rfl rfl ?_
  refine s_box (ss := [bv k]) [32] hE hM rfl (by simp [Value.cells]) (by simp [*]) rfl ?_; clear hE a; intro a b3 w1 hE hM'
  clear hM; have hM := hM'; clear hM'
  refine s_box (ss := [[.int .i64 ((h : Nat) : Int)], [v]]) [1, 1] hE hM rfl rfl (by simp [*]) rfl ?_; clear hE a; intro a b4 w2 hE hM'
  clear hM; have hM := hM'; clear hM'
  refine s_box (ss := [[.int .i64 z], bv tg, [vp], bv tp]) [1, 32, 1, 32] hE hM rfl rfl (by simp [*]) rfl ?_; clear hE a; intro a b5 w3 hE hM'
  clear hM; have hM := hM'; clear hM'
  refine s_assign hE rfl rfl ?_; clear hE a; intro a hE
  refine q_nil ?_
  replace hE : Env a 166 [(3, _), (4, _), (5, _), (6, _)] := hE.sel [3, 4, 5, 6] rfl
  refine hK1 _ _ ?_
  refine wp_seq_k (fun K2 hK2 => ?_)
  refine wp_seq_k (fun K3 hK3 => ?_)
  refine wp_plain [true, true, true, true, true, true, true, true] rfl rfl ?_
  refine s_fieldAddr hE rfl fo26_0 rfl ?_; clear hE a; intro a hE
  refine s_load1 hE rfl (hM.get 1 rfl) rfl one3 (by intro X h; cases h) rfl ?_; clear hE a; intro a hE
  refine s_bin hE rfl rfl bin_gtr rfl ?_; clear hE a; intro a hE
  refine s_move hE rfl rfl ?_; clear hE a; intro a hE
  replace hE := hE.cast 26 rfl (show _ = Value.bool false from (congrArg Value.bool (decide_eq_false (by omega))))
  refine g_no (b := false) hE rfl rfl rfl ?_; clear hE a; intro a hE
  refine g_no (b := false) hE rfl rfl rfl ?_; clear hE a; intro a hE
  refine g_no (b := false) hE rfl rfl rfl ?_; clear hE a; intro a hE
  refine s_pickf hE rfl rfl rfl ?_; clear hE a; intro a hE
  refine q_nil ?_
  replace hE : Env a 166 [(3, _), (4, _), (5, _), (6, _), (30, _)] := hE.sel [3, 4, 5, 6, 30] rfl
  refine hK3 _ _ ?_
  refine wp_cond_false (hE.eval rfl) ?_
  refine wp_skip ?_
  refine hK2 _ _ ?_
  refine wp_seq_k (fun K4 hK4 => ?_)
  refine wp_drawnM hM (by kernel_rfl) (fun _ => False) [(0, true), (1, true), (2, true), (3, true), (4, true), (5, true), (6, true), (7, true), (8, true), (9, true), (10, false), (11, true), (12, true), (13, true), (14, true), (15, true)] [(10, [(11, 10), (12, 11), (13, 11), (14, 10), (15, 10)])] (by kernel_rfl) rfl ?_
  intro w4 hM' hww4; clear hM; have hM := hM'; clear hM'
  refine s_loadN hE rfl (hM.get 2 rfl) row23 rfl (by intro X h; cases h; simp) rfl ?_; clear hE a; intro a hE
  refine s_fieldAddr hE rfl fo26_0 rfl ?_; clear hE a; intro a hE
  refine s_load1 hE rfl (hM.get 1 rfl) rfl one3 (by intro X h; cases h; simp) rfl ?_; clear hE a; intro a hE
  refine s_fieldAddr hE rfl fo26_1 rfl ?_; clear hE a; intro a hE
  refine s_load1 hE rfl (hM.get 1 rfl) rfl one24 (by intro X h; cases h; simp) rfl ?_; clear hE a; intro a hE
  refine s_fieldAddr hE rfl fo26_1 rfl ?_; clear hE a; intro a hE
  refine s_load1 hE rfl (hM.get 1 rfl) rfl one24 (by intro X h; cases h; simp) rfl ?_; clear hE a; intro a hE
  refine s_len hE rfl Tryd.underlying24 (rd_slice (hM.get 3 rfl)) rfl ?_; clear hE a; intro a hE
  refine s_min hE rfl rfl rfl ?_; clear hE a; intro a hE
  replace hE := hE.cast 41 rfl (show _ = Value.int .i64 ((min ls.length 32 : Nat) : Int) from congrArg (Value.int .i64) (by split <;> omega))
  have hcap42 := rd_len (hM.get 3 rfl)
  refine s_slice (l := 0) (h := min ls.length 32) (mx' := c) hE rfl (hM.get 3 rfl) slt24 rfl ⟨_, rfl⟩ rfl (by simp) (Nat.zero_le _) (by first | omega | (simp; omega) | decide +kernel) (by first | omega | (simp; omega) | decide +kernel) (Nat.le_refl _) rfl ?_; clear hE a; intro a v42 hE hr42 hvb42
  replace hr42 := rd_takeR (f := bv) (ls := ls) (fun x hx => ((bv_length _).trans (ho_ls x hx))) (by first | omega | (simp; omega) | decide +kernel) hr42
  replace hM := hM.addPart 3 rfl hr42 hvb42; clear hr42
  refine s_call hE rfl Tryd.call10 (tnew_no2 k h _ (ls.take (min ls.length 32)) _ _ hl_k (hM.get 0 rfl) (ok_take ho_ls) (by omega) (by rw [hll]; exact hm)) rfl ?_
  rintro e w5 ⟨rfl, hN⟩
  refine ⟨_, rfl, hN.sta0 _, ?_⟩; clear hE a; intro a hE
  replace hM : Mem _ _ w5 [_, _, _, _, _, _, _] := hM.call0 hN trivial; clear hN
  refine s_move hE rfl rfl ?_; clear hE a; intro a hE
  refine s_extract hE rfl rfl rfl ?_; clear hE a; intro a hE
  refine s_extract hE rfl rfl rfl ?_; clear hE a; intro a hE
  refine s_assign hE rfl rfl ?_; clear hE a; intro a hE
  refine s_assign hE rfl rfl ?_; clear hE a; intro a hE
  refine q_nil ?_
  replace hE : Env a 166 [(3, _), (4, _), (5, _), (6, _), (7, _), (8, _), (30, _)] := hE.sel [3, 4, 5, 6, 7, 8, 30] rfl
  refine hK4 _ _ ?_
  refine wp_seq_k (fun K5 hK5 => ?_)
  refine wp_drawnM hM (by kernel_rfl) (fun _ => False) [(0, true), (1, true), (2, true), (3, true), (4, true), (5, true), (6, true), (7, true), (8, true), (9, true), (10, false), (11, true), (12, true), (13, true), (14, true), (15, true)] [(10, [(11, 10), (12, 11), (13, 11), (14, 10), (15, 10)])] (by kernel_rfl) rfl ?_
  intro w6 hM' hww6; clear hM; have hM := hM'; clear hM'
  refine s_loadN hE rfl (hM.get 3 rfl) row23 rfl (by intro X h; cases h; simp) rfl ?_; clear hE a; intro a hE
  refine s_fieldAddr hE rfl fo26_0 rfl ?_; clear hE a; intro a hE
  refine s_load1 hE rfl (hM.get 2 rfl) rfl one3 (by intro X h; cases h; simp) rfl ?_; clear hE a; intro a hE
  refine s_fieldAddr hE rfl fo26_1 rfl ?_; clear hE a; intro a hE
  refine s_load1 hE rfl (hM.get 2 rfl) rfl one24 (by intro X h; cases h; simp) rfl ?_; clear hE a; intro a hE
  refine s_fieldAddr hE rfl fo26_1 rfl ?_; clear hE a; intro a hE
  refine s_load1 hE rfl (hM.get 2 rfl) rfl one24 (by intro X h; cases h; simp) rfl ?_; clear hE a; intro a hE
  refine s_len hE rfl Tryd.underlying24 (rd_slice (hM.get 4 rfl)) rfl ?_; clear hE a; intro a hE
  refine s_min hE rfl rfl rfl ?_; clear hE a; intro a hE
  replace hE := hE.cast 55 rfl (show _ = Value.int .i64 ((min ls.length 32 : Nat) : Int) from congrArg (Value.int .i64) (by split <;> omega))
  have hcap56 := rd_len (hM.get 4 rfl)
  refine s_slice (l := 0) (h := min ls.length 32) (mx' := c) hE rfl (hM.get 4 rfl) slt24 rfl ⟨_, rfl⟩ rfl (by simp) (Nat.zero_le _) (by first | omega | (simp; omega) | decide +kernel) (by first | omega | (simp; omega) | decide +kernel) (Nat.le_refl _) rfl ?_; clear hE a; intro a v56 hE hr56 hvb56
  replace hr56 := rd_takeR (f := bv) (ls := ls) (fun x hx => ((bv_length _).trans (ho_ls x hx))) (by first | omega | (simp; omega) | decide +kernel) hr56
  replace hM := hM.addPart 4 rfl hr56 hvb56; clear hr56
  refine s_call hE rfl Tryd.call10 (tnew_no2 k h _ (ls.take (min ls.length 32)) _ _ hl_k (hM.get 0 rfl) (ok_take ho_ls) (by omega) (by rw [hll]; exact hm)) rfl ?_
  rintro e w7 ⟨rfl, hN⟩
  refine ⟨_, rfl, hN.sta0 _, ?_⟩; clear hE a; intro a hE
  replace hM : Mem _ _ w7 [_, _, _, _, _, _, _, _] := hM.call0 hN trivial; clear hN
  refine s_move hE rfl rfl ?_; clear hE a; intro a hE
  refine s_extract hE rfl rfl rfl ?_; clear hE a; intro a hE
  refine s_extract hE rfl rfl rfl ?_; clear hE a; intro a hE
  refine s_assign hE rfl rfl ?_; clear hE a; intro a hE
  refine s_assign hE rfl rfl ?_; clear hE a; intro a hE
  refine q_nil ?_
  replace hE : Env a 166 [(3, _), (4, _), (5, _), (6, _), (7, _), (8, _), (9, _), (10, _), (30, _)] := hE.sel [3, 4, 5, 6, 7, 8, 9, 10, 30] rfl
  refine hK5 _ _ ?_
  refine wp_seq_k (fun K6 hK6 => ?_)
  refine wp_seq_k (fun K7 hK7 => ?_)
  refine wp_plain [true, true, true] rfl rfl ?_
  refine s_move hE rfl rfl ?_; clear hE a; intro a hE
  refine s_move hE rfl rfl ?_; clear hE a; intro a hE
  refine s_bin hE rfl rfl bin_neq rfl ?_; clear hE a; intro a hE
  replace hE := hE.cast 62 rfl (show _ = Value.bool false from (congrArg Value.bool (by decide)))
  refine q_nil ?_
  replace hE : Env a 166 [(3, _), (4, _), (5, _), (6, _), (7, _), (8, _), (9, _), (30, _), (62, _)] := hE.sel [3, 4, 5, 6, 7, 8, 9, 30, 62] rfl
  refine hK7 _ _ ?_
  refine wp_cond_false (hE.eval rfl) ?_
  refine wp_skip ?_
  refine hK6 _ _ ?_
  refine wp_seq_k (fun K8 hK8 => ?_)
  refine wp_seq_k (fun K9 hK9 => ?_)
  refine wp_plain [true, true] rfl rfl ?_
  refine s_move hE rfl rfl ?_; clear hE a; intro a hE
  refine s_bin hE rfl rfl bin_neq rfl ?_; clear hE a; intro a hE
  replace hE := hE.cast 64 rfl (show _ = Value.bool true from (congrArg Value.bool (by decide)))
  refine q_nil ?_
  replace hE : Env a 166 [(3, _), (4, _), (5, _), (6, _), (7, _), (8, _), (9, _), (30, _), (62, _), (64, _)] := hE.sel [3, 4, 5, 6, 7, 8, 9, 30, 62, 64] rfl
  refine hK9 _ _ ?_
  refine wp_cond_true (hE.eval rfl) ?_
  refine wp_seq_k (fun K10 hK10 => ?_)
  refine wp_plain [false, true] rfl rfl ?_
  refine s_call hE rfl Tryd.call9 (works_c  _ (hM.get 7 rfl)) rfl ?_
  rintro e w8 ⟨rfl, hN⟩
  refine ⟨_, rfl, trivial, ?_⟩; clear hE a; intro a hE
  replace hM : Mem _ _ w8 [_, _, _, _, _, _, _, _] := hM.call0 hN trivial; clear hN
  refine s_assign hE rfl rfl ?_; clear hE a; intro a hE
  refine q_nil ?_
  replace hE : Env a 166 [(3, _), (4, _), (5, _), (6, _), (7, _), (8, _), (9, _), (30, _), (62, _), (64, _)] := hE.sel [3, 4, 5, 6, 7, 8, 9, 30, 62, 64] rfl
  refine hK10 _ _ ?_
  refine wp_ret ?_
  refine q_then_r ?_
  refine f_ret1 hE rfl rfl ?_
  exact ⟨(by first | rfl | (simp; done)), hM.pick [] rfl⟩
set_option maxRecDepth 20000 in
set_option maxHeartbeats 2000000 in
theorem treeApart_in (k : List UInt8) (h : Nat) (v : Value) (ls : List (List UInt8)) (c : Nat) (z : Int) (tg : List UInt8) (vp : Value) (ps : List (List UInt8)) (cp : Nat) (tp : List UInt8) {q : Nat} (w : World) (hG : (glb 0).holds w) (hl_k : k.length = 32) (hr_ls : (rd v 32 ls.length c (ls.flatMap bv)).holds w) (ho_ls : ∀ x, x ∈ ls → x.length = 32) (hl_tg : tg.length = 32) (hr_ps : (rd vp 64 ps.length cp (ps.flatMap bv)).holds w) (ho_ps : ∀ x, x ∈ ps → x.length = 64) (hl_tp : tp.length = 32) (hh5 : 1 ≤ h ∧ h ≤ 5) (hm : min ls.length 32 ≤ 2 ^ h) (hq : q < 2 ^ h) (hzq : z.tmod ((2 ^ h : Nat) : Int) = (q : Int)) : Calls Tryd.prog 8 #[.agg (bv k).toArray, .agg ([[.int .i64 ((h : Nat) : Int)], [v]] : List (List Value)).flatten.toArray, .agg ([[.int .i64 z], bv tg, [vp], bv tp] : List (List Value)).flatten.toArray] w fun e w' => e = .returned (.bool true) ∧ Mem w [] w' [] := by
  have hh : 1 ≤ h ∧ h ≤ 12 := by omega
  have hpw := two_pow_le hh
  have hpw1 := hpw.1
  have hpw2 := hpw.2
  have hll : (ls.take (min ls.length 32)).length = min ls.length 32 := by rw [List.length_take]; omega
  have hoL : OkTs (ls.take (min ls.length 32)) := fun x hx => ho_ls x (List.mem_of_mem_take hx)
  have hpl0 : (pathZ ((h : Nat) : Int) ((q : Nat) : Int)).length = h := path_len hh hq
  have hM : Mem w [] w [rd v 32 ls.length c (ls.flatMap bv), rd vp 64 ps.length cp (ps.flatMap bv), glb 0] := Mem.startR w (fun g hg => by
    simp only [List.mem_cons, List.not_mem_nil, or_false] at hg
    rcases hg with rfl | rfl | rfl
    · exact ⟨hr_ls, rfl⟩
    · exact ⟨hr_ps, rfl⟩
    · exact ⟨hG, rfl⟩)
  refine f_enter 166 Tryd.func8 rfl rfl rfl ?_
  intro a hE
  replace hE : Env a 166 [(0, _), (1, _), (2, _)] := hE
  refine wp_seq_k (fun K1 hK1 => ?_)
  refine wp_plain [false, false, false, true] rfl rfl ?_
  refine s_box (ss := [bv k]) [32] hE hM rfl (by simp [Value.cells]) (by simp [*]) rfl ?_; clear hE a; intro a b3 w1 hE hM'
  clear hM; have hM := hM'; clear hM'
  refine s_box (ss := [[.int .i64 ((h : Nat) : Int)], [v]]) [1, 1] hE hM rfl rfl (by simp [*]) rfl ?_; clear hE a; intro a b4 w2 hE hM'
  clear hM; have hM := hM'; clear hM'
  refine s_box (ss := [[.int .i64 z], bv tg, [vp], bv tp]) [1, 32, 1, 32] hE hM rfl rfl (by simp [*]) rfl ?_; clear hE a; intro a b5 w3 hE hM'
  clear hM; have hM := hM'; clear hM'
  refine s_assign hE rfl rfl ?_; clear hE a; intro a hE
  refine q_nil ?_
  replace hE : Env a 166 [(3, _), (4, _), (5, _), (6, _)] := hE.sel [3, 4, 5, 6] rfl
  refine hK1 _ _ ?_
  refine wp_seq_k (fun K2 hK2 => ?_)
  refine wp_seq_k (fun K3 hK3 => ?_)
  refine wp_plain [true, true, true, true, true, true, true, true] rfl rfl ?_
  refine s_fieldAddr hE rfl fo26_0 rfl ?_; clear hE a; intro a hE
  refine s_load1 hE rfl (hM.get 1 rfl) rfl one3 (by intro X h; cases h) rfl ?_; clear hE a; intro a hE
  refine s_bin hE rfl rfl bin_gtr rfl ?_; clear hE a; intro a hE
  refine s_move hE rfl rfl ?_; clear hE a; intro a hE
  replace hE := hE.cast 26 rfl (show _ = Value.bool false from (congrArg Value.bool (decide_eq_false (by omega))))
  refine g_no (b := false) hE rfl rfl rfl ?_; clear hE a; intro a hE
  refine g_no (b := false) hE rfl rfl rfl ?_; clear hE a; intro a hE
  refine g_no (b := false) hE rfl rfl rfl ?_; clear hE a; intro a hE
  refine s_pickf hE rfl rfl rfl ?_; clear hE a; intro a hE
  refine q_nil ?_
  replace hE : Env a 166 [(3, _), (4, _), (5, _), (6, _), (30, _)] := hE.sel [3, 4, 5, 6, 30] rfl
  refine hK3 _ _ ?_
  refine wp_cond_false (hE.eval rfl) ?_
  refine wp_skip ?_
  refine hK2 _ _ ?_
  refine wp_seq_k (fun K4 hK4 => ?_)
  refine wp_drawnM hM (by kernel_rfl) (fun _ => False) [(0, true), (1, true), (2, true), (3, true), (4, true), (5, true), (6, true), (7, true), (8, true), (9, true), (10, false), (11, true), (12, true), (13, true), (14, true), (15, true)] [(10, [(11, 10), (12, 11), (13, 11), (14, 10), (15, 10)])] (by kernel_rfl) rfl ?_
  intro w4 hM' hww4; clear hM; have hM := hM'; clear hM'
  refine s_loadN hE rfl (hM.get 2 rfl) row23 rfl (by intro X h; cases h; simp) rfl ?_; clear hE a; intro a hE
  refine s_fieldAddr hE rfl fo26_0 rfl ?_; clear hE a; intro a hE
  refine s_load1 hE rfl (hM.get 1 rfl) rfl one3 (by intro X h; cases h; simp) rfl ?_; clear hE a; intro a hE
  refine s_fieldAddr hE rfl fo26_1 rfl ?_; clear hE a; intro a hE
  refine s_load1 hE rfl (hM.get 1 rfl) rfl one24 (by intro X h; cases h; simp) rfl ?_; clear hE a; intro a hE
  refine s_fieldAddr hE rfl fo26_1 rfl ?_; clear hE a; intro a hE
  refine s_load1 hE rfl (hM.get 1 rfl) rfl one24 (by intro X h; cases h; simp) rfl ?_; clear hE a; intro a hE
  refine s_len hE rfl Tryd.underlying24 (rd_slice (hM.get 3 rfl)) rfl ?_; clear hE a; intro a hE
  refine s_min hE rfl rfl rfl ?_; clear hE a; intro a hE
  replace hE := hE.cast 41 rfl (show _ = Value.int .i64 ((min ls.length 32 : Nat) : Int) from congrArg (Value.int .i64) (by split <;> omega))
  have hcap42 := rd_len (hM.get 3 rfl)
  refine s_slice (l := 0) (h := min ls.length 32) (mx' := c) hE rfl (hM.get 3 rfl) slt24 rfl ⟨_, rfl⟩ rfl (by simp) (Nat.zero_le _) (by first | omega | (simp; omega) | decide +kernel) (by first | omega | (simp; omega) | decide +kernel) (Nat.le_refl _) rfl ?_; clear hE a; intro a v42 hE hr42 hvb42
  replace hr42 := rd_takeR (f := bv) (ls := ls) (fun x hx => ((bv_length _).trans (ho_ls x hx))) (by first | omega | (simp; omega) | decide +kernel) hr42
  replace hM := hM.addPart 3 rfl hr42 hvb42; clear hr42
  refine s_call hE rfl Tryd.call10 (tnew_c k h _ (ls.take (min ls.length 32)) _ _ (hM.get 6 rfl) (hM.get 0 rfl) hl_k (ok_take ho_ls) (by first | decide | omega) (by rw [hll]; exact hm)) rfl ?_
  rintro e w5 ⟨b43, u43, rfl, hN⟩
  refine ⟨_, rfl, hN.sta0 _, ?_⟩; clear hE a; intro a hE
  replace hM : Mem _ _ w5 [_, _, _, _, _, _, _, _, _] := hM.call0 hN ⟨rfl, rfl, trivial⟩; clear hN
  refine s_move hE rfl rfl ?_; clear hE a; intro a hE
  refine s_extract hE rfl rfl rfl ?_; clear hE a; intro a hE
  refine s_extract hE rfl rfl rfl ?_; clear hE a; intro a hE
  refine s_assign hE rfl rfl ?_; clear hE a; intro a hE
  refine s_assign hE rfl rfl ?_; clear hE a; intro a hE
  refine q_nil ?_
  replace hE : Env a 166 [(3, _), (4, _), (5, _), (6, _), (7, _), (8, _), (30, _)] := hE.sel [3, 4, 5, 6, 7, 8, 30] rfl
  refine hK4 _ _ ?_
  refine wp_seq_k (fun K5 hK5 => ?_)
  refine wp_drawnM hM (by kernel_rfl) (fun _ => False) [(0, true), (1, true), (2, true), (3, true), (4, true), (5, true), (6, true), (7, true), (8, true), (9, true), (10, false), (11, true), (12, true), (13, true), (14, true), (15, true)] [(10, [(11, 10), (12, 11), (13, 11), (14, 10), (15, 10)])] (by kernel_rfl) rfl ?_
  intro w6 hM' hww6; clear hM; have hM := hM'; clear hM'
  refine s_loadN hE rfl (hM.get 5 rfl) row23 rfl (by intro X h; cases h; simp) rfl ?_; clear hE a; intro a hE
  refine s_fieldAddr hE rfl fo26_0 rfl ?_; clear hE a; intro a hE
  refine s_load1 hE rfl (hM.get 4 rfl) rfl one3 (by intro X h; cases h; simp) rfl ?_; clear hE a; intro a hE
  refine s_fieldAddr hE rfl fo26_1 rfl ?_; clear hE a; intro a hE
  refine s_load1 hE rfl (hM.get 4 rfl) rfl one24 (by intro X h; cases h; simp) rfl ?_; clear hE a; intro a hE
  refine s_fieldAddr hE rfl fo26_1 rfl ?_; clear hE a; intro a hE
  refine s_load1 hE rfl (hM.get 4 rfl) rfl one24 (by intro X h; cases h; simp) rfl ?_; clear hE a; intro a hE
  refine s_len hE rfl Tryd.underlying24 (rd_slice (hM.get 6 rfl)) rfl ?_; clear hE a; intro a hE
  refine s_min hE rfl rfl rfl ?_; clear hE a; intro a hE
  replace hE := hE.cast 55 rfl (show _ = Value.int .i64 ((min ls.length 32 : Nat) : Int) from congrArg (Value.int .i64) (by split <;> omega))
  have hcap56 := rd_len (hM.get 6 rfl)
  refine s_slice (l := 0) (h := min ls.length 32) (mx' := c) hE rfl (hM.get 6 rfl) slt24 rfl ⟨_, rfl⟩ rfl (by simp) (Nat.zero_le _) (by first | omega | (simp; omega) | decide +kernel) (by first | omega | (simp; omega) | decide +kernel) (Nat.le_refl _) rfl ?_; clear hE a; intro a v56 hE hr56 hvb56
  replace hr56 := rd_takeR (f := bv) (ls := ls) (fun x hx => ((bv_length _).trans (ho_ls x hx))) (by first | omega | (simp; omega) | decide +kernel) hr56
  replace hM := hM.addPart 6 rfl hr56 hvb56; clear hr56
  refine s_call hE rfl Tryd.call10 (tnew_c k h _ (ls.take (min ls.length 32)) _ _ (hM.get 9 rfl) (hM.get 0 rfl) hl_k (ok_take ho_ls) (by first | decide | omega) (by rw [hll]; exact hm)) rfl ?_
  rintro e w7 ⟨b57, u57, rfl, hN⟩
  refine ⟨_, rfl, hN.sta0 _, ?_⟩; clear hE a; intro a hE
  replace hM : Mem _ _ w7 [_, _, _, _, _, _, _, _, _, _, _, _] := hM.call0 hN ⟨rfl, rfl, trivial⟩; clear hN
  refine s_move hE rfl rfl ?_; clear hE a; intro a hE
  refine s_extract hE rfl rfl rfl ?_; clear hE a; intro a hE
  refine s_extract hE rfl rfl rfl ?_; clear hE a; intro a hE
  refine s_assign hE rfl rfl ?_; clear hE a; intro a hE
  refine s_assign hE rfl rfl ?_; clear hE a; intro a hE
  refine q_nil ?_
  replace hE : Env a 166 [(3, _), (4, _), (5, _), (6, _), (7, _), (8, _), (9, _), (10, _), (30, _)] := hE.sel [3, 4, 5, 6, 7, 8, 9, 10, 30] rfl
  refine hK5 _ _ ?_
  refine wp_seq_k (fun K6 hK6 => ?_)
  refine wp_seq_k (fun K7 hK7 => ?_)
  refine wp_plain [true, true, true] rfl rfl ?_
  refine s_move hE rfl rfl ?_; clear hE a; intro a hE
  refine s_move hE rfl rfl ?_; clear hE a; intro a hE
  refine s_bin hE rfl rfl bin_neq rfl ?_; clear hE a; intro a hE
  replace hE := hE.cast 62 rfl (show _ = Value.bool false from (congrArg Value.bool (by decide)))
  refine q_nil ?_
  replace hE : Env a 166 [(3, _), (4, _), (5, _), (6, _), (7, _), (8, _), (9, _), (30, _), (62, _)] := hE.sel [3, 4, 5, 6, 7, 8, 9, 30, 62] rfl
  refine hK7 _ _ ?_
  refine wp_cond_false (hE.eval rfl) ?_
  refine wp_skip ?_
  refine hK6 _ _ ?_
  refine wp_seq_k (fun K8 hK8 => ?_)
  refine wp_seq_k (fun K9 hK9 => ?_)
  refine wp_plain [true, true] rfl rfl ?_
  refine s_move hE rfl rfl ?_; clear hE a; intro a hE
  refine s_bin hE rfl rfl bin_neq rfl ?_; clear hE a; intro a hE
  replace hE := hE.cast 64 rfl (show _ = Value.bool false from (congrArg Value.bool (by decide)))
  refine q_nil ?_
  replace hE : Env a 166 [(3, _), (4, _), (5, _), (6, _), (7, _), (8, _), (9, _), (30, _), (62, _), (64, _)] := hE.sel [3, 4, 5, 6, 7, 8, 9, 30, 62, 64] rfl
  refine hK9 _ _ ?_
  refine wp_cond_false (hE.eval rfl) ?_
  refine wp_skip ?_
  refine hK8 _ _ ?_
  refine wp_seq_k (fun K10 hK10 => ?_)
  refine wp_plain [true, true, true, true, true] rfl rfl ?_
  refine s_fieldAddr hE rfl fo26_0 rfl ?_; clear hE a; intro a hE
  refine s_load1 hE rfl (hM.get 7 rfl) rfl one3 (by intro X h; cases h) rfl ?_; clear hE a; intro a hE
  refine s_conv hE rfl (cnv_int Tryd.underlying3 Tryd.underlying33 (wrap_u64 (by omega) (by omega))) rfl ?_; clear hE a; intro a hE
  refine s_bin hE rfl rfl (bin_one_shl (by omega)) rfl ?_; clear hE a; intro a hE
  refine s_assign hE rfl rfl ?_; clear hE a; intro a hE
  refine q_nil ?_
  replace hE : Env a 166 [(3, _), (4, _), (5, _), (6, _), (7, _), (8, _), (9, _), (11, _), (30, _), (62, _), (64, _)] := hE.sel [3, 4, 5, 6, 7, 8, 9, 11, 30, 62, 64] rfl
  refine hK10 _ _ ?_
  refine wp_seq_k (fun K11 hK11 => ?_)
  refine wp_plain [true, true, true, true, true] rfl rfl ?_
  refine s_fieldAddr hE rfl fo46_0 rfl ?_; clear hE a; intro a hE
  refine s_load1 hE rfl (hM.get 6 rfl) rfl one3 (by intro X h; cases h) rfl ?_; clear hE a; intro a hE
  refine s_move hE rfl rfl ?_; clear hE a; intro a hE
  refine s_bin hE rfl rfl (bin_tmod (n := 2 ^ h) (by omega) hzq) rfl ?_; clear hE a; intro a hE
  refine s_assign hE rfl rfl ?_; clear hE a; intro a hE
  refine q_nil ?_
  replace hE : Env a 166 [(3, _), (4, _), (5, _), (6, _), (7, _), (8, _), (9, _), (11, _), (12, _), (30, _), (62, _), (64, _)] := hE.sel [3, 4, 5, 6, 7, 8, 9, 11, 12, 30, 62, 64] rfl
  refine hK11 _ _ ?_
  refine wp_seq_k (fun K12 hK12 => ?_)
  refine wp_seq_k (fun K13 hK13 => ?_)
  refine wp_plain [true, true] rfl rfl ?_
  refine s_move hE rfl rfl ?_; clear hE a; intro a hE
  refine s_bin hE rfl rfl bin_lss rfl ?_; clear hE a; intro a hE
  refine q_nil ?_
  replace hE : Env a 166 [(3, _), (4, _), (5, _), (6, _), (7, _), (8, _), (9, _), (11, _), (12, _), (30, _), (62, _), (64, _), (75, _)] := hE.sel [3, 4, 5, 6, 7, 8, 9, 11, 12, 30, 62, 64, 75] rfl
  refine hK13 _ _ ?_
  replace hE := hE.cast 75 rfl (show _ = Value.bool false from (congrArg Value.bool (decide_eq_false (by omega))))
  refine wp_cond_false (hE.eval rfl) ?_
  refine wp_skip ?_
  refine hK12 _ _ ?_
  refine wp_seq_k (fun K14 hK14 => ?_)
  refine wp_plain [true, true, true, true, false, true, true, true, false, false, true] rfl rfl ?_
  refine s_move hE rfl rfl ?_; clear hE a; intro a hE
  refine s_move hE rfl rfl ?_; clear hE a; intro a hE
  refine s_move hE rfl rfl ?_; clear hE a; intro a hE
  refine s_bin hE rfl rfl (show Bin _ _ _ _ _ (.int .i64 (((2 ^ h) + q : Nat) : Int)) from bin_add (by rw [wrap_i64 (by omega) (by omega)]; omega)) rfl ?_; clear hE a; intro a hE
  obtain ⟨cs1, hs1⟩ := own_rd (hM.get 4 rfl)
  refine s_call hE rfl Tryd.call13 (ttagI_c b43 h k u43 (allT k (2 ^ h) (padL (2 ^ h) (ls.take (min ls.length 32)))) cs1 (((2 ^ h) + q : Nat) : Int) _ (hM.get 3 rfl) hs1 hl_k (OkTs.all (OkTs.pad (ok_take ho_ls))) (by first | decide | omega) (allT_len (Nat.le_of_eq (padL_length (by rw [hll]; exact hm))))) rfl ?_
  rintro e w8 ⟨rfl, hN⟩
  refine ⟨_, rfl, trivial, ?_⟩; clear hE a; intro a hE
  replace hM : Mem _ _ w8 [_, _, _, _, _, _, _, _, _, _, _, _] := hM.call0 hN trivial; clear hN
  refine s_move hE rfl rfl ?_; clear hE a; intro a hE
  refine s_extract hE rfl rfl rfl ?_; clear hE a; intro a hE
  refine s_extract hE rfl rfl rfl ?_; clear hE a; intro a hE
  refine s_alloc [32] hE hM zero34 rfl rfl ?_; clear hE a; intro a b13 w9 hE hM'
  clear hM; have hM := hM'; clear hM'
  refine s_storeSeg 0 hE rfl rfl hM rfl sz34 ((bv_length _).trans (tagZ_len (OkTs.all (OkTs.pad (ok_take ho_ls))))) (bv_one _) rfl ((bv_length _).trans (by first | (simp; done) | (simp [*]; done) | (simp; omega))) rfl (by intro X h; cases h) ?_; intro w10 hM'; clear hM; have hM := hM'; clear hM'
  simp only [List.set_cons_zero, List.set_cons_succ] at hM
  refine s_assign hE rfl rfl ?_; clear hE a; intro a hE
  refine q_nil ?_
  replace hE : Env a 166 [(3, _), (4, _), (5, _), (6, _), (7, _), (8, _), (9, _), (11, _), (12, _), (13, _), (30, _), (62, _), (64, _), (75, _)] := hE.sel [3, 4, 5, 6, 7, 8, 9, 11, 12, 13, 30, 62, 64, 75] rfl
  refine hK14 _ _ ?_
  refine wp_seq_k (fun K15 hK15 => ?_)
  refine wp_plain [true, true, true, true, false] rfl rfl ?_
  refine s_move hE rfl rfl ?_; clear hE a; intro a hE
  refine s_move hE rfl rfl ?_; clear hE a; intro a hE
  refine s_fieldAddr hE rfl fo46_1 rfl ?_; clear hE a; intro a hE
  refine s_loadN hE rfl (hM.get 7 rfl) row34 rfl (by intro X h; cases h) rfl ?_; clear hE a; intro a hE
  replace hM : Mem _ _ w10 [_, _, _, _, _, _, _, _, _, _, _, _, _] := hM.pick [2, 0, 1, 3, 4, 5, 6, 7, 8, 9, 10, 11, 12] rfl
  refine s_call hE rfl Tryd.call11 (tsetI_c b57 h k tg u57 (padL (2 ^ h) (ls.take (min ls.length 32))) ((q : Nat) : Int) _ (hM.get 12 rfl) (hM.get 2 rfl) (hM.get 0 rfl) (fun x hx => ((apart_of_get hM.apart (i := 0) (j := 2) rfl rfl (by decide)).1 x hx).1) (fun x hx => ((apart_of_get hM.apart (i := 0) (j := 12) rfl rfl (by decide)).1 x hx).2) hl_k (OkTs.pad (ok_take ho_ls)) (by first | decide | omega) (padL_length (by rw [hll]; exact hm)) hl_tg) rfl ?_
  rintro e w11 ⟨q91, rfl, hN⟩
  refine ⟨_, rfl, trivial, ?_⟩; clear hE a; intro a hE
  replace hM : Mem _ _ w11 [_, _, _, _, _, _, _, _, _, _, _, _, _, _] := hM.call1' hN ⟨rfl, rfl, trivial⟩; clear hN
  refine q_nil ?_
  replace hE : Env a 166 [(3, _), (4, _), (5, _), (6, _), (7, _), (8, _), (9, _), (11, _), (12, _), (13, _), (30, _), (62, _), (64, _), (75, _)] := hE.sel [3, 4, 5, 6, 7, 8, 9, 11, 12, 13, 30, 62, 64, 75] rfl
  refine hK15 _ _ ?_
  refine wp_seq_k (fun K16 hK16 => ?_)
  refine wp_plain [true, true, true, false, true] rfl rfl ?_
  refine s_fieldAddr hE rfl fo26_0 rfl ?_; clear hE a; intro a hE
  refine s_load1 hE rfl (hM.get 9 rfl) rfl one3 (by intro X h; cases h) rfl ?_; clear hE a; intro a hE
  refine s_move hE rfl rfl ?_; clear hE a; intro a hE
  refine s_call hE rfl Tryd.call15 (tpathI_c ((h : Nat) : Int) ((q : Nat) : Int) _) rfl ?_
  rintro e w12 ⟨v95, rfl, hN⟩
  refine ⟨_, rfl, trivial, ?_⟩; clear hE a; intro a hE
  replace hM : Mem _ _ w12 [_, _, _, _, _, _, _, _, _, _, _, _, _, _, _] := hM.call0 hN ⟨rfl, trivial⟩; clear hN
  refine s_assign hE rfl rfl ?_; clear hE a; intro a hE
  refine q_nil ?_
  replace hE : Env a 166 [(3, _), (4, _), (5, _), (6, _), (7, _), (8, _), (9, _), (11, _), (12, _), (13, _), (15, _), (30, _), (62, _), (64, _), (75, _)] := hE.sel [3, 4, 5, 6, 7, 8, 9, 11, 12, 13, 15, 30, 62, 64, 75] rfl
  refine hK16 _ _ ?_
  refine wp_seq_k (fun K17 hK17 => ?_)
  refine wp_seq_k (fun K18 hK18 => ?_)
  refine wp_plain [true, true, true, true, true] rfl rfl ?_
  refine s_move hE rfl rfl ?_; clear hE a; intro a hE
  refine s_len hE rfl Tryd.underlying35 (own_slice (hM.get 0 rfl)) rfl ?_; clear hE a; intro a hE
  refine s_fieldAddr hE rfl fo26_0 rfl ?_; clear hE a; intro a hE
  refine s_load1 hE rfl (hM.get 10 rfl) rfl one3 (by intro X h; cases h) rfl ?_; clear hE a; intro a hE
  refine s_bin hE rfl rfl bin_neq rfl ?_; clear hE a; intro a hE
  refine q_nil ?_
  replace hE : Env a 166 [(3, _), (4, _), (5, _), (6, _), (7, _), (8, _), (9, _), (11, _), (12, _), (13, _), (15, _), (30, _), (62, _), (64, _), (75, _), (100, _)] := hE.sel [3, 4, 5, 6, 7, 8, 9, 11, 12, 13, 15, 30, 62, 64, 75, 100] rfl
  refine hK18 _ _ ?_
  replace hE := hE.cast 100 rfl (show _ = Value.bool false from (congrArg Value.bool (by rw [path_len hh hq]; simp)))
  refine wp_cond_false (hE.eval rfl) ?_
  refine wp_skip ?_
  refine hK17 _ _ ?_
  refine wp_seq_k (fun K19 hK19 => ?_)
  refine wp_seq_k (fun K20 hK20 => ?_)
  refine wp_plain [true] rfl rfl ?_
  refine s_assign hE rfl rfl ?_; clear hE a; intro a hE
  refine q_nil ?_
  refine hK20 _ _ ?_
  refine wp_block ?_
  replace hE := hE.cast 16 rfl (show _ = Value.int .i64 ((0 + 1 : Nat) : Int) from rfl)
  refine c_loop (fun (i1 : Nat) a w' => i1 ≤ 2 ^ h - 1 ∧ Env a 166 [(3, .pointer (some ⟨b3, 0, none⟩)), (4, .pointer (some ⟨b4, 0, none⟩)), (5, .pointer (some ⟨b5, 0, none⟩)), (6, .bool false), (7, .pointer (some ⟨b43, 0, none⟩)), (8, .int .i64 0), (9, .pointer (some ⟨b57, 0, none⟩)), (11, .int .i64 ((2 ^ h : Nat) : Int)), (12, .int .i64 ((q : Nat) : Int)), (13, .pointer (some ⟨b13, 0, none⟩)), (15, v95), (16, .int .i64 ((i1 + 1 : Nat) : Int)), (30, .bool false), (62, .bool false), (64, .bool false), (75, .bool false), (100, .bool false)] ∧ Mem w [] w' [own v95 1 ((pathZ ((h : Nat) : Int) ((q : Nat) : Int)).length) ((pathZ ((h : Nat) : Int) ((q : Nat) : Int)).flatMap intC), own q91 1 ((chgZ k h (padL (2 ^ h) (ls.take (min ls.length 32))) ((q : Nat) : Int) tg).length) ((chgZ k h (padL (2 ^ h) (ls.take (min ls.length 32))) ((q : Nat) : Int) tg).flatMap intC), own u57 32 ((allT k (2 ^ h) (lvZ (padL (2 ^ h) (ls.take (min ls.length 32))) h ((q : Nat) : Int) tg)).length) ((allT k (2 ^ h) (lvZ (padL (2 ^ h) (ls.take (min ls.length 32))) h ((q : Nat) : Int) tg)).flatMap bv), blk b13 [bv (tagZ (allT k (2 ^ h) (padL (2 ^ h) (ls.take (min ls.length 32)))) (2 ^ h) (((2 ^ h) + q : Nat) : Int))] [32] 34, blk b57 [bv k, [.int .i64 ((h : Nat) : Int)], [u57]] [32, 1, 1] 73, rd v56 32 ((ls.take (min ls.length 32)).length) (c - 0) ((ls.take (min ls.length 32)).flatMap bv), blk b43 [bv k, [.int .i64 ((h : Nat) : Int)], [u43]] [32, 1, 1] 73, own u43 32 ((allT k (2 ^ h) (padL (2 ^ h) (ls.take (min ls.length 32)))).length) ((allT k (2 ^ h) (padL (2 ^ h) (ls.take (min ls.length 32)))).flatMap bv), rd v42 32 ((ls.take (min ls.length 32)).length) (c - 0) ((ls.take (min ls.length 32)).flatMap bv), blk b5 [[.int .i64 z], bv tg, [vp], bv tp] [1, 32, 1, 32] 46, blk b4 [[.int .i64 ((h : Nat) : Int)], [v]] [1, 1] 26, blk b3 [bv k] [32] 23, rd v 32 ls.length c (ls.flatMap bv), rd vp 64 ps.length cp (ps.flatMap bv), glb 0]) (fun i1 => 2 ^ h - 1 - i1) 0 ⟨Nat.zero_le _, hE.sel [3, 4, 5, 6, 7, 8, 9, 11, 12, 13, 15, 16, 30, 62, 64, 75, 100] rfl, hM⟩ ?_
  clear hE hM a; rintro i1 a w13 ⟨hi1, hE, hM⟩
  refine wp_seq_k (fun K21 hK21 => ?_)
  refine wp_seq_k (fun K22 hK22 => ?_)
  refine wp_plain [true, true, true] rfl rfl ?_
  refine s_move hE rfl rfl ?_; clear hE a; intro a hE
  refine s_move hE rfl rfl ?_; clear hE a; intro a hE
  refine s_bin hE rfl rfl bin_lss rfl ?_; clear hE a; intro a hE
  refine q_nil ?_
  replace hE : Env a 166 [(3, _), (4, _), (5, _), (6, _), (7, _), (8, _), (9, _), (11, _), (12, _), (13, _), (15, _), (16, _), (30, _), (62, _), (64, _), (75, _), (100, _), (103, _)] := hE.sel [3, 4, 5, 6, 7, 8, 9, 11, 12, 13, 15, 16, 30, 62, 64, 75, 100, 103] rfl
  refine hK22 _ _ ?_
  refine hE.split 103 rfl (fun hb103 hE' => ?_) (fun hb103 hE' => ?_)
  · replace hE := hE'; clear hE'
    replace hb103 := of_decide_eq_true hb103
    replace hb103 : (i1 + 1) < (2 ^ h) := by omega
    replace hb103 : i1 < 2 ^ h - 1 := by omega
    refine wp_cond_true (hE.eval rfl) ?_
    refine wp_skip ?_
    refine hK21 _ _ ?_
    refine wp_seq_k (fun K23 hK23 => ?_)
    refine wp_block ?_
    refine wp_seq_k (fun K24 hK24 => ?_)
    refine wp_plain [true, true, false, true, true, true, false, false, true] rfl rfl ?_
    refine s_move hE rfl rfl ?_; clear hE a; intro a hE
    refine s_move hE rfl rfl ?_; clear hE a; intro a hE
    obtain ⟨cs2, hs2⟩ := own_rd (hM.get 7 rfl)
    refine s_call hE rfl Tryd.call24 (tnodeI_c b43 h k u43 (allT k (2 ^ h) (padL (2 ^ h) (ls.take (min ls.length 32)))) cs2 ((i1 + 1 : Nat) : Int) _ (hM.get 6 rfl) hs2 hl_k (OkTs.all (OkTs.pad (ok_take ho_ls))) (by first | decide | omega) (allT_len (Nat.le_of_eq (padL_length (by rw [hll]; exact hm))))) rfl ?_
    rintro e w14 ⟨rfl, hN⟩
    refine ⟨_, rfl, trivial, ?_⟩; clear hE a; intro a hE
    replace hM : Mem _ _ w14 [_, _, _, _, _, _, _, _, _, _, _, _, _, _, _] := hM.call0 hN trivial; clear hN
    refine s_move hE rfl rfl ?_; clear hE a; intro a hE
    refine s_extract hE rfl rfl rfl ?_; clear hE a; intro a hE
    refine s_extract hE rfl rfl rfl ?_; clear hE a; intro a hE
    refine s_alloc [64] hE hM zero52 rfl rfl ?_; clear hE a; intro a b17 w15 hE hM'
    clear hM; have hM := hM'; clear hM'
    refine s_storeSeg 0 hE rfl rfl hM rfl sz52 ((bv_length _).trans (nodeZ_len (OkTs.all (OkTs.pad (ok_take ho_ls))))) (bv_one _) rfl ((bv_length _).trans (by first | (simp; done) | (simp [*]; done) | (simp; omega))) rfl (by intro X h; cases h) ?_; intro w16 hM'; clear hM; have hM := hM'; clear hM'
    simp only [List.set_cons_zero, List.set_cons_succ] at hM
    refine s_assign hE rfl rfl ?_; clear hE a; intro a hE
    refine q_nil ?_
    replace hE : Env a 166 [(3, _), (4, _), (5, _), (6, _), (7, _), (8, _), (9, _), (11, _), (12, _), (13, _), (15, _), (16, _), (17, _), (18, _), (30, _), (62, _), (64, _), (75, _), (100, _), (103, _)] := hE.sel [3, 4, 5, 6, 7, 8, 9, 11, 12, 13, 15, 16, 17, 18, 30, 62, 64, 75, 100, 103] rfl
    refine hK24 _ _ ?_
    refine wp_seq_k (fun K25 hK25 => ?_)
    refine wp_plain [true, true, false, true, true, true, false, false, true] rfl rfl ?_
    refine s_move hE rfl rfl ?_; clear hE a; intro a hE
    refine s_move hE rfl rfl ?_; clear hE a; intro a hE
    obtain ⟨cs3, hs3⟩ := own_rd (hM.get 3 rfl)
    refine s_call hE rfl Tryd.call24 (tnodeI_c b57 h k u57 (allT k (2 ^ h) (lvZ (padL (2 ^ h) (ls.take (min ls.length 32))) h ((q : Nat) : Int) tg)) cs3 ((i1 + 1 : Nat) : Int) _ (hM.get 5 rfl) hs3 hl_k (OkTs.all (lvZ_ok (OkTs.pad (ok_take ho_ls)) hl_tg)) (by first | decide | omega) (allT_len (Nat.le_of_eq (lvZ_len.trans (padL_length (by rw [hll]; exact hm)))))) rfl ?_
    rintro e w17 ⟨rfl, hN⟩
    refine ⟨_, rfl, trivial, ?_⟩; clear hE a; intro a hE
    replace hM : Mem _ _ w17 [_, _, _, _, _, _, _, _, _, _, _, _, _, _, _, _] := hM.call0 hN trivial; clear hN
    refine s_move hE rfl rfl ?_; clear hE a; intro a hE
    refine s_extract hE rfl rfl rfl ?_; clear hE a; intro a hE
    refine s_extract hE rfl rfl rfl ?_; clear hE a; intro a hE
    refine s_alloc [64] hE hM zero52 rfl rfl ?_; clear hE a; intro a b19 w18 hE hM'
    clear hM; have hM := hM'; clear hM'
    refine s_storeSeg 0 hE rfl rfl hM rfl sz52 ((bv_length _).trans (nodeZ_len (OkTs.all (lvZ_ok (OkTs.pad (ok_take ho_ls)) hl_tg)))) (bv_one _) rfl ((bv_length _).trans (by first | (simp; done) | (simp [*]; done) | (simp; omega))) rfl (by intro X h; cases h) ?_; intro w19 hM'; clear hM; have hM := hM'; clear hM'
    simp only [List.set_cons_zero, List.set_cons_succ] at hM
    refine s_assign hE rfl rfl ?_; clear hE a; intro a hE
    refine q_nil ?_
    replace hE : Env a 166 [(3, _), (4, _), (5, _), (6, _), (7, _), (8, _), (9, _), (11, _), (12, _), (13, _), (15, _), (16, _), (17, _), (18, _), (19, _), (20, _), (30, _), (62, _), (64, _), (75, _), (100, _), (103, _)] := hE.sel [3, 4, 5, 6, 7, 8, 9, 11, 12, 13, 15, 16, 17, 18, 19, 20, 30, 62, 64, 75, 100, 103] rfl
    refine hK25 _ _ ?_
    refine wp_seq_k (fun K26 hK26 => ?_)
    refine wp_plain [true] rfl rfl ?_
    refine s_assign hE rfl rfl ?_; clear hE a; intro a hE
    refine q_nil ?_
    refine hK26 _ _ ?_
    refine wp_seq_k (fun K27 hK27 => ?_)
    refine wp_seq_k (fun K28 hK28 => ?_)
    refine wp_plain [true] rfl rfl ?_
    refine s_assign hE rfl rfl ?_; clear hE a; intro a hE
    refine q_nil ?_
    refine hK28 _ _ ?_
    refine wp_block ?_
    replace hE := hE.cast 21 rfl (show _ = Value.bool (decide ((i1 + 1) ∈ (pathZ ((h : Nat) : Int) ((q : Nat) : Int)).take 0)) from (congrArg Value.bool (by simp)))
    refine c_loop (fun (i2 : Nat) a w' => i2 ≤ (pathZ ((h : Nat) : Int) ((q : Nat) : Int)).length ∧ Env a 166 [(3, .pointer (some ⟨b3, 0, none⟩)), (4, .pointer (some ⟨b4, 0, none⟩)), (5, .pointer (some ⟨b5, 0, none⟩)), (6, .bool false), (7, .pointer (some ⟨b43, 0, none⟩)), (8, .int .i64 0), (9, .pointer (some ⟨b57, 0, none⟩)), (11, .int .i64 ((2 ^ h : Nat) : Int)), (12, .int .i64 ((q : Nat) : Int)), (13, .pointer (some ⟨b13, 0, none⟩)), (15, v95), (16, .int .i64 ((i1 + 1 : Nat) : Int)), (17, .pointer (some ⟨b17, 0, none⟩)), (18, .int .i64 ((eZ 1 (2 ^ h) ((i1 + 1 : Nat) : Int) : Nat) : Int)), (19, .pointer (some ⟨b19, 0, none⟩)), (20, .int .i64 ((eZ 1 (2 ^ h) ((i1 + 1 : Nat) : Int) : Nat) : Int)), (21, .bool (decide ((i1 + 1) ∈ (pathZ ((h : Nat) : Int) ((q : Nat) : Int)).take i2))), (22, .int .i64 ((i2 : Nat) : Int)), (30, .bool false), (62, .bool false), (64, .bool false), (75, .bool false), (100, .bool false), (103, .bool true)] ∧ Mem w [] w' [blk b19 [bv (nodeZ (allT k (2 ^ h) (lvZ (padL (2 ^ h) (ls.take (min ls.length 32))) h ((q : Nat) : Int) tg)) (2 ^ h) ((i1 + 1 : Nat) : Int))] [64] 52, blk b17 [bv (nodeZ (allT k (2 ^ h) (padL (2 ^ h) (ls.take (min ls.length 32)))) (2 ^ h) ((i1 + 1 : Nat) : Int))] [64] 52, own v95 1 ((pathZ ((h : Nat) : Int) ((q : Nat) : Int)).length) ((pathZ ((h : Nat) : Int) ((q : Nat) : Int)).flatMap intC), own q91 1 ((chgZ k h (padL (2 ^ h) (ls.take (min ls.length 32))) ((q : Nat) : Int) tg).length) ((chgZ k h (padL (2 ^ h) (ls.take (min ls.length 32))) ((q : Nat) : Int) tg).flatMap intC), own u57 32 ((allT k (2 ^ h) (lvZ (padL (2 ^ h) (ls.take (min ls.length 32))) h ((q : Nat) : Int) tg)).length) ((allT k (2 ^ h) (lvZ (padL (2 ^ h) (ls.take (min ls.length 32))) h ((q : Nat) : Int) tg)).flatMap bv), blk b13 [bv (tagZ (allT k (2 ^ h) (padL (2 ^ h) (ls.take (min ls.length 32)))) (2 ^ h) (((2 ^ h) + q : Nat) : Int))] [32] 34, blk b57 [bv k, [.int .i64 ((h : Nat) : Int)], [u57]] [32, 1, 1] 73, rd v56 32 ((ls.take (min ls.length 32)).length) (c - 0) ((ls.take (min ls.length 32)).flatMap bv), blk b43 [bv k, [.int .i64 ((h : Nat) : Int)], [u43]] [32, 1, 1] 73, own u43 32 ((allT k (2 ^ h) (padL (2 ^ h) (ls.take (min ls.length 32)))).length) ((allT k (2 ^ h) (padL (2 ^ h) (ls.take (min ls.length 32)))).flatMap bv), rd v42 32 ((ls.take (min ls.length 32)).length) (c - 0) ((ls.take (min ls.length 32)).flatMap bv), blk b5 [[.int .i64 z], bv tg, [vp], bv tp] [1, 32, 1, 32] 46, blk b4 [[.int .i64 ((h : Nat) : Int)], [v]] [1, 1] 26, blk b3 [bv k] [32] 23, rd v 32 ls.length c (ls.flatMap bv), rd vp 64 ps.length cp (ps.flatMap bv), glb 0]) (fun i2 => (pathZ ((h : Nat) : Int) ((q : Nat) : Int)).length - i2) 0 ⟨Nat.zero_le _, hE.sel [3, 4, 5, 6, 7, 8, 9, 11, 12, 13, 15, 16, 17, 18, 19, 20, 21, 22, 30, 62, 64, 75, 100, 103] rfl, hM⟩ ?_
    clear hE hM a; rintro i2 a w20 ⟨hi2, hE, hM⟩
    refine wp_seq_k (fun K29 hK29 => ?_)
    refine wp_seq_k (fun K30 hK30 => ?_)
    refine wp_plain [true, true, true, true] rfl rfl ?_
    refine s_move hE rfl rfl ?_; clear hE a; intro a hE
    refine s_move hE rfl rfl ?_; clear hE a; intro a hE
    refine s_len hE rfl Tryd.underlying35 (own_slice (hM.get 2 rfl)) rfl ?_; clear hE a; intro a hE
    refine s_bin hE rfl rfl bin_lss rfl ?_; clear hE a; intro a hE
    refine q_nil ?_
    replace hE : Env a 166 [(3, _), (4, _), (5, _), (6, _), (7, _), (8, _), (9, _), (11, _), (12, _), (13, _), (15, _), (16, _), (17, _), (18, _), (19, _), (20, _), (21, _), (22, _), (30, _), (62, _), (64, _), (75, _), (100, _), (103, _), (121, _)] := hE.sel [3, 4, 5, 6, 7, 8, 9, 11, 12, 13, 15, 16, 17, 18, 19, 20, 21, 22, 30, 62, 64, 75, 100, 103, 121] rfl
    refine hK30 _ _ ?_
    refine hE.split 121 rfl (fun hb121 hE' => ?_) (fun hb121 hE' => ?_)
    · replace hE := hE'; clear hE'
      replace hb121 := of_decide_eq_true hb121
      replace hb121 : i2 < ((pathZ ((h : Nat) : Int) ((q : Nat) : Int)).length) := by omega
      replace hb121 : i2 < (pathZ ((h : Nat) : Int) ((q : Nat) : Int)).length := by omega
      refine wp_cond_true (hE.eval rfl) ?_
      refine wp_skip ?_
      refine hK29 _ _ ?_
      refine wp_seq_k (fun K31 hK31 => ?_)
      refine wp_block ?_
      refine wp_plain [true, true, true, true, true, true, true, true, true, true] rfl rfl ?_
      refine s_move hE rfl rfl ?_; clear hE a; intro a hE
      refine s_move hE rfl rfl ?_; clear hE a; intro a hE
      refine hE.split 125 rfl (fun hb125 hE' => ?_) (fun hb125 hE' => ?_)
      · replace hE := hE'; clear hE'
        replace hb125 := of_decide_eq_true hb125
        refine g_no (b := true) hE rfl rfl rfl ?_; clear hE a; intro a hE
        refine g_no (b := true) hE rfl rfl rfl ?_; clear hE a; intro a hE
        refine g_no (b := true) hE rfl rfl rfl ?_; clear hE a; intro a hE
        refine g_no (b := true) hE rfl rfl rfl ?_; clear hE a; intro a hE
        refine g_no (b := true) hE rfl rfl rfl ?_; clear hE a; intro a hE
        refine g_no (b := true) hE rfl rfl rfl ?_; clear hE a; intro a hE
        refine s_pickt hE rfl rfl rfl ?_; clear hE a; intro a hE
        refine s_assign hE rfl rfl ?_; clear hE a; intro a hE
        refine q_nil ?_
        replace hE : Env a 166 [(3, _), (4, _), (5, _), (6, _), (7, _), (8, _), (9, _), (11, _), (12, _), (13, _), (15, _), (16, _), (17, _), (18, _), (19, _), (20, _), (21, _), (22, _), (30, _), (62, _), (64, _), (75, _), (100, _), (103, _), (121, _)] := hE.sel [3, 4, 5, 6, 7, 8, 9, 11, 12, 13, 15, 16, 17, 18, 19, 20, 21, 22, 30, 62, 64, 75, 100, 103, 121] rfl
        refine q_block_n ?_
        refine hK31 _ _ ?_
        refine wp_plain [true, true, true] rfl rfl ?_
        refine s_move hE rfl rfl ?_; clear hE a; intro a hE
        refine s_bin hE rfl rfl (show Bin _ _ _ _ _ (.int .i64 ((i2 + 1 : Nat) : Int)) from bin_add (by rw [wrap_i64 (by omega) (by omega)]; omega)) rfl ?_; clear hE a; intro a hE
        refine s_assign hE rfl rfl ?_; clear hE a; intro a hE
        refine q_nil ?_
        replace hE : Env a 166 [(3, _), (4, _), (5, _), (6, _), (7, _), (8, _), (9, _), (11, _), (12, _), (13, _), (15, _), (16, _), (17, _), (18, _), (19, _), (20, _), (21, _), (22, _), (30, _), (62, _), (64, _), (75, _), (100, _), (103, _), (121, _)] := hE.sel [3, 4, 5, 6, 7, 8, 9, 11, 12, 13, 15, 16, 17, 18, 19, 20, 21, 22, 30, 62, 64, 75, 100, 103, 121] rfl
        replace hE := hE.cast 21 rfl (show _ = Value.bool (decide ((i1 + 1) ∈ (pathZ ((h : Nat) : Int) ((q : Nat) : Int)).take (i2 + 1))) from (congrArg Value.bool (on_yes hb125)))
        replace hE := hE.cast 22 rfl (show _ = Value.int .i64 (((i2 + 1) : Nat) : Int) from (congrArg _ (by omega)))
        replace hM : Mem _ _ w20 [_, _, _, _, _, _, _, _, _, _, _, _, _, _, _, _, _] := hM.pick [0, 1, 2, 3, 4, 5, 6, 7, 8, 9, 10, 11, 12, 13, 14, 15, 16] rfl
        exact ⟨i2 + 1, ⟨by omega, hE.sel [3, 4, 5, 6, 7, 8, 9, 11, 12, 13, 15, 16, 17, 18, 19, 20, 21, 22, 30, 62, 64, 75, 100, 103] rfl, hM⟩, by omega⟩
      · replace hE := hE'; clear hE'
        replace hb125 := of_decide_eq_false hb125
        refine g_yes hE rfl rfl ?_
        refine s_move hE rfl rfl ?_; clear hE a; intro a hE
        refine g_yes hE rfl rfl ?_
        refine s_move hE rfl rfl ?_; clear hE a; intro a hE
        refine g_yes hE rfl rfl ?_
        obtain ⟨cx128, hx128⟩ := own_rd (hM.get 2 rfl)
        refine s_indexRd (j := i2) hE rfl hx128 rfl slt35 (by first | rfl | omega) (by first | (rw [path_len hh hq]; omega) | omega) rfl ?_; clear hE a; intro a p128 hE hc128 hp128
        have hlj128 : i2 < (pathZ ((h : Nat) : Int) ((q : Nat) : Int)).length := (by first | (rw [path_len hh hq]; omega) | omega)
        have hok128 := pathZ_ok _ (getD_mem (d := 0) hlj128)
        rw [flat_elem (d := 0) (fun x hx => (show (intC _).length = 1 from rfl)) hlj128] at hc128
        refine g_yes hE rfl rfl ?_
        replace hc128 : (cellsAt _ [.int .i64 ((((pathZ ((h : Nat) : Int) ((q : Nat) : Int)).getD i2 0) : Nat) : Int)]).holds _ := hc128
        refine s_loadAt1 hE rfl hc128 one3 (by intro X h; cases h) rfl ?_; clear hE a; intro a hE
        refine g_yes hE rfl rfl ?_
        refine s_move hE rfl rfl ?_; clear hE a; intro a hE
        refine g_yes hE rfl rfl ?_
        refine s_bin hE rfl rfl bin_eql rfl ?_; clear hE a; intro a hE
        refine s_pickf hE rfl rfl rfl ?_; clear hE a; intro a hE
        refine s_assign hE rfl rfl ?_; clear hE a; intro a hE
        refine q_nil ?_
        replace hE : Env a 166 [(3, _), (4, _), (5, _), (6, _), (7, _), (8, _), (9, _), (11, _), (12, _), (13, _), (15, _), (16, _), (17, _), (18, _), (19, _), (20, _), (21, _), (22, _), (30, _), (62, _), (64, _), (75, _), (100, _), (103, _), (121, _)] := hE.sel [3, 4, 5, 6, 7, 8, 9, 11, 12, 13, 15, 16, 17, 18, 19, 20, 21, 22, 30, 62, 64, 75, 100, 103, 121] rfl
        refine q_block_n ?_
        refine hK31 _ _ ?_
        refine wp_plain [true, true, true] rfl rfl ?_
        refine s_move hE rfl rfl ?_; clear hE a; intro a hE
        refine s_bin hE rfl rfl (show Bin _ _ _ _ _ (.int .i64 ((i2 + 1 : Nat) : Int)) from bin_add (by rw [wrap_i64 (by omega) (by omega)]; omega)) rfl ?_; clear hE a; intro a hE
        refine s_assign hE rfl rfl ?_; clear hE a; intro a hE
        refine q_nil ?_
        replace hE : Env a 166 [(3, _), (4, _), (5, _), (6, _), (7, _), (8, _), (9, _), (11, _), (12, _), (13, _), (15, _), (16, _), (17, _), (18, _), (19, _), (20, _), (21, _), (22, _), (30, _), (62, _), (64, _), (75, _), (100, _), (103, _), (121, _)] := hE.sel [3, 4, 5, 6, 7, 8, 9, 11, 12, 13, 15, 16, 17, 18, 19, 20, 21, 22, 30, 62, 64, 75, 100, 103, 121] rfl
        replace hE := hE.cast 21 rfl (show _ = Value.bool (decide ((i1 + 1) ∈ (pathZ ((h : Nat) : Int) ((q : Nat) : Int)).take (i2 + 1))) from (congrArg Value.bool (on_no (by omega) hb125)))
        replace hE := hE.cast 22 rfl (show _ = Value.int .i64 (((i2 + 1) : Nat) : Int) from (congrArg _ (by omega)))
        replace hM : Mem _ _ w20 [_, _, _, _, _, _, _, _, _, _, _, _, _, _, _, _, _] := hM.pick [0, 1, 2, 3, 4, 5, 6, 7, 8, 9, 10, 11, 12, 13, 14, 15, 16] rfl
        exact ⟨i2 + 1, ⟨by omega, hE.sel [3, 4, 5, 6, 7, 8, 9, 11, 12, 13, 15, 16, 17, 18, 19, 20, 21, 22, 30, 62, 64, 75, 100, 103] rfl, hM⟩, by omega⟩
    · replace hE := hE'; clear hE'
      replace hb121 := of_decide_eq_false hb121
      replace hb121 : ¬ (i2 < ((pathZ ((h : Nat) : Int) ((q : Nat) : Int)).length)) := by omega
      have hon : (pathZ ((h : Nat) : Int) ((q : Nat) : Int)).take i2 = pathZ ((h : Nat) : Int) ((q : Nat) : Int) := List.take_of_length_le (by omega)
      rw [hon] at hE
      refine wp_cond_false (hE.eval rfl) ?_
      refine wp_exit ?_
      refine q_then_e ?_
      refine q_then_e ?_
      refine q_block_x ?_
      refine hK27 _ _ ?_
      refine wp_seq_k (fun K31 hK31 => ?_)
      refine wp_drawnM hM (by kernel_rfl) (fun _ => False) [(0, true), (1, true), (2, true), (3, true), (4, true), (5, true), (6, true), (7, true), (8, true), (9, true), (10, true), (11, true), (12, true), (13, true), (14, true), (15, true), (16, true), (17, true), (18, true), (19, true), (20, true), (21, true), (22, true), (23, true), (24, true), (25, true), (26, true), (27, true), (28, true), (29, true), (30, true), (31, true)] [] (by kernel_rfl) rfl ?_
      intro w21 hM' hww21; clear hM; have hM := hM'; clear hM'
      refine s_move hE rfl rfl ?_; clear hE a; intro a hE
      refine s_bin hE rfl rfl bin_neq rfl ?_; clear hE a; intro a hE
      refine s_move hE rfl rfl ?_; clear hE a; intro a hE
      replace hE := hE.cast 135 rfl (show _ = Value.bool false from (congrArg Value.bool (by rw [eZ_in (by omega)]; rfl)))
      refine g_yes hE rfl rfl ?_
      refine s_move hE rfl rfl ?_; clear hE a; intro a hE
      refine g_yes hE rfl rfl ?_
      refine s_bin hE rfl rfl bin_neq rfl ?_; clear hE a; intro a hE
      refine s_pickf hE rfl rfl rfl ?_; clear hE a; intro a hE
      refine s_move hE rfl rfl ?_; clear hE a; intro a hE
      replace hE := hE.cast 139 rfl (show _ = Value.bool false from (congrArg Value.bool (by rw [eZ_in (by omega)]; rfl)))
      refine g_yes hE rfl rfl ?_
      refine s_move hE rfl rfl ?_; clear hE a; intro a hE
      refine g_yes hE rfl rfl ?_
      refine s_not hE rfl rfl ?_; clear hE a; intro a hE
      refine g_yes hE rfl rfl ?_
      refine s_move hE rfl rfl ?_; clear hE a; intro a hE
      refine hE.split 142 rfl (fun hb142 hE' => ?_) (fun hb142 hE' => ?_)
      · replace hE := hE'; clear hE'
        replace hb142 := of_decide_eq_false (not_true hb142)
        have hoff : ¬ (i1 + 1) ∈ pathZ ((h : Nat) : Int) ((q : Nat) : Int) := hb142
        refine g_yes hE rfl rfl ?_
        refine s_loadN hE rfl (hM.get 1 rfl) row52 rfl (by intro X h; cases h; simp) rfl ?_; clear hE a; intro a hE
        refine g_yes hE rfl rfl ?_
        refine s_loadN hE rfl (hM.get 0 rfl) row52 rfl (by intro X h; cases h; simp) rfl ?_; clear hE a; intro a hE
        refine g_yes hE rfl rfl ?_
        refine s_bin hE rfl rfl (eqa52 (nodeZ_len (OkTs.all (OkTs.pad (ok_take ho_ls)))) (nodeZ_len (OkTs.all (lvZ_ok (OkTs.pad (ok_take ho_ls)) hl_tg)))).2 rfl ?_; clear hE a; intro a hE
        refine g_yes hE rfl rfl ?_
        refine s_pickt hE rfl rfl rfl ?_; clear hE a; intro a hE
        refine s_pickf hE rfl rfl rfl ?_; clear hE a; intro a hE
        refine s_move hE rfl rfl ?_; clear hE a; intro a hE
        replace hE := hE.cast 148 rfl (show _ = Value.bool false from (congrArg Value.bool (by rw [decide_eq_true (apart_node (k := k) (tg := tg) hh (padL_length (by rw [hll]; exact hm)) hq (by omega) (by omega) hoff)]; rfl)))
        refine g_yes hE rfl rfl ?_
        refine s_move hE rfl rfl ?_; clear hE a; intro a hE
        refine g_yes hE rfl rfl ?_
        refine s_move hE rfl rfl ?_; clear hE a; intro a hE
        refine g_yes hE rfl rfl ?_
        obtain ⟨cx151, hx151⟩ := own_rd (hM.get 2 rfl)
        refine s_indexRd (j := 0) hE rfl hx151 rfl slt35 (by first | rfl | omega) (by first | (rw [path_len hh hq]; omega) | omega) rfl ?_; clear hE a; intro a p151 hE hc151 hp151
        have hlj151 : 0 < (pathZ ((h : Nat) : Int) ((q : Nat) : Int)).length := (by first | (rw [path_len hh hq]; omega) | omega)
        have hok151 := pathZ_ok _ (getD_mem (d := 0) hlj151)
        rw [flat_elem (d := 0) (fun x hx => (show (intC _).length = 1 from rfl)) hlj151] at hc151
        refine g_yes hE rfl rfl ?_
        replace hc151 : (cellsAt _ [.int .i64 ((((pathZ ((h : Nat) : Int) ((q : Nat) : Int)).getD 0 0) : Nat) : Int)]).holds _ := hc151
        refine s_loadAt1 hE rfl hc151 one3 (by intro X h; cases h; simp) rfl ?_; clear hE a; intro a hE
        refine g_yes hE rfl rfl ?_
        refine s_bin hE rfl rfl bin_eql rfl ?_; clear hE a; intro a hE
        refine g_yes hE rfl rfl ?_
        refine s_move hE rfl rfl ?_; clear hE a; intro a hE
        refine hE.split 154 rfl (fun hb154 hE' => ?_) (fun hb154 hE' => ?_)
        · replace hE := hE'; clear hE'
          replace hb154 := of_decide_eq_true hb154
          replace hb154 : (i1 + 1) = ((pathZ ((h : Nat) : Int) ((q : Nat) : Int)).getD 0 0) := by omega
          have hlow : (i1 + 1) = (pathZ ((h : Nat) : Int) ((q : Nat) : Int)).getD 0 0 := by omega
          refine g_yes hE rfl rfl ?_
          refine s_loadN hE rfl (hM.get 1 rfl) row52 rfl (by intro X h; cases h; simp) rfl ?_; clear hE a; intro a hE
          refine g_yes hE rfl rfl ?_
          refine s_loadN hE rfl (hM.get 0 rfl) row52 rfl (by intro X h; cases h; simp) rfl ?_; clear hE a; intro a hE
          refine g_yes hE rfl rfl ?_
          refine s_bin hE rfl rfl (eqa52 (nodeZ_len (OkTs.all (OkTs.pad (ok_take ho_ls)))) (nodeZ_len (OkTs.all (lvZ_ok (OkTs.pad (ok_take ho_ls)) hl_tg)))).1 rfl ?_; clear hE a; intro a hE
          refine g_yes hE rfl rfl ?_
          refine s_loadN hE rfl (hM.get 5 rfl) row34 rfl (by intro X h; cases h; simp) rfl ?_; clear hE a; intro a hE
          refine g_yes hE rfl rfl ?_
          refine s_fieldAddr hE rfl fo46_1 rfl ?_; clear hE a; intro a hE
          refine g_yes hE rfl rfl ?_
          refine s_loadN hE rfl (hM.get 11 rfl) row34 rfl (by intro X h; cases h; simp) rfl ?_; clear hE a; intro a hE
          refine g_yes hE rfl rfl ?_
          refine s_bin hE rfl rfl (eqa34 (tagZ_len (OkTs.all (OkTs.pad (ok_take ho_ls)))) hl_tg).1 rfl ?_; clear hE a; intro a hE
          refine g_yes hE rfl rfl ?_
          refine s_bin hE rfl rfl (bins_bool Tryd.underlying4).2 rfl ?_; clear hE a; intro a hE
          refine g_yes hE rfl rfl ?_
          refine s_pickt hE rfl rfl rfl ?_; clear hE a; intro a hE
          refine s_pickf hE rfl rfl rfl ?_; clear hE a; intro a hE
          refine q_nil ?_
          replace hE : Env a 166 [(3, _), (4, _), (5, _), (6, _), (7, _), (8, _), (9, _), (11, _), (12, _), (13, _), (15, _), (16, _), (17, _), (18, _), (19, _), (20, _), (21, _), (22, _), (30, _), (62, _), (64, _), (75, _), (100, _), (103, _), (121, _), (164, _)] := hE.sel [3, 4, 5, 6, 7, 8, 9, 11, 12, 13, 15, 16, 17, 18, 19, 20, 21, 22, 30, 62, 64, 75, 100, 103, 121, 164] rfl
          refine hK31 _ _ ?_
          replace hE := hE.cast 164 rfl (show _ = Value.bool false from (congrArg Value.bool (neq_same (apart_low (k := k) (OkTs.pad hoL) hl_tg hh (padL_length (by rw [hll]; exact hm)) hq hlow))))
          refine wp_cond_false (hE.eval rfl) ?_
          refine wp_skip ?_
          refine q_block_n ?_
          refine hK23 _ _ ?_
          refine wp_plain [true, true, true] rfl rfl ?_
          refine s_move hE rfl rfl ?_; clear hE a; intro a hE
          refine s_bin hE rfl rfl (show Bin _ _ _ _ _ (.int .i64 (((i1 + 1) + 1 : Nat) : Int)) from bin_add (by rw [wrap_i64 (by omega) (by omega)]; omega)) rfl ?_; clear hE a; intro a hE
          refine s_assign hE rfl rfl ?_; clear hE a; intro a hE
          refine q_nil ?_
          replace hE : Env a 166 [(3, _), (4, _), (5, _), (6, _), (7, _), (8, _), (9, _), (11, _), (12, _), (13, _), (15, _), (16, _), (17, _), (18, _), (19, _), (20, _), (21, _), (22, _), (30, _), (62, _), (64, _), (75, _), (100, _), (103, _), (121, _), (164, _)] := hE.sel [3, 4, 5, 6, 7, 8, 9, 11, 12, 13, 15, 16, 17, 18, 19, 20, 21, 22, 30, 62, 64, 75, 100, 103, 121, 164] rfl
          replace hE := hE.cast 16 rfl (show _ = Value.int .i64 (((i1 + 1) + 1 : Nat) : Int) from (congrArg _ (by omega)))
          replace hM : Mem _ _ w21 [_, _, _, _, _, _, _, _, _, _, _, _, _, _, _] := hM.pick [2, 3, 4, 5, 6, 7, 8, 9, 10, 11, 12, 13, 14, 15, 16] rfl
          exact ⟨i1 + 1, ⟨by omega, hE.sel [3, 4, 5, 6, 7, 8, 9, 11, 12, 13, 15, 16, 30, 62, 64, 75, 100] rfl, hM⟩, by omega⟩
        · replace hE := hE'; clear hE'
          replace hb154 := of_decide_eq_false hb154
          replace hb154 : ¬ ((i1 + 1) = ((pathZ ((h : Nat) : Int) ((q : Nat) : Int)).getD 0 0)) := by omega
          refine g_no (b := false) hE rfl rfl rfl ?_; clear hE a; intro a hE
          refine g_no (b := false) hE rfl rfl rfl ?_; clear hE a; intro a hE
          refine g_no (b := false) hE rfl rfl rfl ?_; clear hE a; intro a hE
          refine g_no (b := false) hE rfl rfl rfl ?_; clear hE a; intro a hE
          refine g_no (b := false) hE rfl rfl rfl ?_; clear hE a; intro a hE
          refine g_no (b := false) hE rfl rfl rfl ?_; clear hE a; intro a hE
          refine g_no (b := false) hE rfl rfl rfl ?_; clear hE a; intro a hE
          refine g_no (b := false) hE rfl rfl rfl ?_; clear hE a; intro a hE
          refine g_yes hE rfl rfl ?_
          refine s_pickf hE rfl rfl rfl ?_; clear hE a; intro a hE
          refine s_pickf hE rfl rfl rfl ?_; clear hE a; intro a hE
          refine q_nil ?_
          replace hE : Env a 166 [(3, _), (4, _), (5, _), (6, _), (7, _), (8, _), (9, _), (11, _), (12, _), (13, _), (15, _), (16, _), (17, _), (18, _), (19, _), (20, _), (21, _), (22, _), (30, _), (62, _), (64, _), (75, _), (100, _), (103, _), (121, _), (164, _)] := hE.sel [3, 4, 5, 6, 7, 8, 9, 11, 12, 13, 15, 16, 17, 18, 19, 20, 21, 22, 30, 62, 64, 75, 100, 103, 121, 164] rfl
          refine hK31 _ _ ?_
          refine wp_cond_false (hE.eval rfl) ?_
          refine wp_skip ?_
          refine q_block_n ?_
          refine hK23 _ _ ?_
          refine wp_plain [true, true, true] rfl rfl ?_
          refine s_move hE rfl rfl ?_; clear hE a; intro a hE
          refine s_bin hE rfl rfl (show Bin _ _ _ _ _ (.int .i64 (((i1 + 1) + 1 : Nat) : Int)) from bin_add (by rw [wrap_i64 (by omega) (by omega)]; omega)) rfl ?_; clear hE a; intro a hE
          refine s_assign hE rfl rfl ?_; clear hE a; intro a hE
          refine q_nil ?_
          replace hE : Env a 166 [(3, _), (4, _), (5, _), (6, _), (7, _), (8, _), (9, _), (11, _), (12, _), (13, _), (15, _), (16, _), (17, _), (18, _), (19, _), (20, _), (21, _), (22, _), (30, _), (62, _), (64, _), (75, _), (100, _), (103, _), (121, _), (164, _)] := hE.sel [3, 4, 5, 6, 7, 8, 9, 11, 12, 13, 15, 16, 17, 18, 19, 20, 21, 22, 30, 62, 64, 75, 100, 103, 121, 164] rfl
          replace hE := hE.cast 16 rfl (show _ = Value.int .i64 (((i1 + 1) + 1 : Nat) : Int) from (congrArg _ (by omega)))
          replace hM : Mem _ _ w21 [_, _, _, _, _, _, _, _, _, _, _, _, _, _, _] := hM.pick [2, 3, 4, 5, 6, 7, 8, 9, 10, 11, 12, 13, 14, 15, 16] rfl
          exact ⟨i1 + 1, ⟨by omega, hE.sel [3, 4, 5, 6, 7, 8, 9, 11, 12, 13, 15, 16, 30, 62, 64, 75, 100] rfl, hM⟩, by omega⟩
      · replace hE := hE'; clear hE'
        replace hb142 := of_decide_eq_true (not_false' hb142)
        refine g_no (b := false) hE rfl rfl rfl ?_; clear hE a; intro a hE
        refine g_no (b := false) hE rfl rfl rfl ?_; clear hE a; intro a hE
        refine g_no (b := false) hE rfl rfl rfl ?_; clear hE a; intro a hE
        refine g_yes hE rfl rfl ?_
        refine s_pickf hE rfl rfl rfl ?_; clear hE a; intro a hE
        refine s_pickf hE rfl rfl rfl ?_; clear hE a; intro a hE
        refine s_move hE rfl rfl ?_; clear hE a; intro a hE
        refine g_yes hE rfl rfl ?_
        refine s_move hE rfl rfl ?_; clear hE a; intro a hE
        refine g_yes hE rfl rfl ?_
        refine s_move hE rfl rfl ?_; clear hE a; intro a hE
        refine g_yes hE rfl rfl ?_
        obtain ⟨cx151, hx151⟩ := own_rd (hM.get 2 rfl)
        refine s_indexRd (j := 0) hE rfl hx151 rfl slt35 (by first | rfl | omega) (by first | (rw [path_len hh hq]; omega) | omega) rfl ?_; clear hE a; intro a p151 hE hc151 hp151
        have hlj151 : 0 < (pathZ ((h : Nat) : Int) ((q : Nat) : Int)).length := (by first | (rw [path_len hh hq]; omega) | omega)
        have hok151 := pathZ_ok _ (getD_mem (d := 0) hlj151)
        rw [flat_elem (d := 0) (fun x hx => (show (intC _).length = 1 from rfl)) hlj151] at hc151
        refine g_yes hE rfl rfl ?_
        replace hc151 : (cellsAt _ [.int .i64 ((((pathZ ((h : Nat) : Int) ((q : Nat) : Int)).getD 0 0) : Nat) : Int)]).holds _ := hc151
        refine s_loadAt1 hE rfl hc151 one3 (by intro X h; cases h; simp) rfl ?_; clear hE a; intro a hE
        refine g_yes hE rfl rfl ?_
        refine s_bin hE rfl rfl bin_eql rfl ?_; clear hE a; intro a hE
        refine g_yes hE rfl rfl ?_
        refine s_move hE rfl rfl ?_; clear hE a; intro a hE
        refine hE.split 154 rfl (fun hb154 hE' => ?_) (fun hb154 hE' => ?_)
        · replace hE := hE'; clear hE'
          replace hb154 := of_decide_eq_true hb154
          replace hb154 : (i1 + 1) = ((pathZ ((h : Nat) : Int) ((q : Nat) : Int)).getD 0 0) := by omega
          have hlow : (i1 + 1) = (pathZ ((h : Nat) : Int) ((q : Nat) : Int)).getD 0 0 := by omega
          refine g_yes hE rfl rfl ?_
          refine s_loadN hE rfl (hM.get 1 rfl) row52 rfl (by intro X h; cases h; simp) rfl ?_; clear hE a; intro a hE
          refine g_yes hE rfl rfl ?_
          refine s_loadN hE rfl (hM.get 0 rfl) row52 rfl (by intro X h; cases h; simp) rfl ?_; clear hE a; intro a hE
          refine g_yes hE rfl rfl ?_
          refine s_bin hE rfl rfl (eqa52 (nodeZ_len (OkTs.all (OkTs.pad (ok_take ho_ls)))) (nodeZ_len (OkTs.all (lvZ_ok (OkTs.pad (ok_take ho_ls)) hl_tg)))).1 rfl ?_; clear hE a; intro a hE
          refine g_yes hE rfl rfl ?_
          refine s_loadN hE rfl (hM.get 5 rfl) row34 rfl (by intro X h; cases h; simp) rfl ?_; clear hE a; intro a hE
          refine g_yes hE rfl rfl ?_
          refine s_fieldAddr hE rfl fo46_1 rfl ?_; clear hE a; intro a hE
          refine g_yes hE rfl rfl ?_
          refine s_loadN hE rfl (hM.get 11 rfl) row34 rfl (by intro X h; cases h; simp) rfl ?_; clear hE a; intro a hE
          refine g_yes hE rfl rfl ?_
          refine s_bin hE rfl rfl (eqa34 (tagZ_len (OkTs.all (OkTs.pad (ok_take ho_ls)))) hl_tg).1 rfl ?_; clear hE a; intro a hE
          refine g_yes hE rfl rfl ?_
          refine s_bin hE rfl rfl (bins_bool Tryd.underlying4).2 rfl ?_; clear hE a; intro a hE
          refine g_yes hE rfl rfl ?_
          refine s_pickt hE rfl rfl rfl ?_; clear hE a; intro a hE
          refine s_pickf hE rfl rfl rfl ?_; clear hE a; intro a hE
          refine q_nil ?_
          replace hE : Env a 166 [(3, _), (4, _), (5, _), (6, _), (7, _), (8, _), (9, _), (11, _), (12, _), (13, _), (15, _), (16, _), (17, _), (18, _), (19, _), (20, _), (21, _), (22, _), (30, _), (62, _), (64, _), (75, _), (100, _), (103, _), (121, _), (164, _)] := hE.sel [3, 4, 5, 6, 7, 8, 9, 11, 12, 13, 15, 16, 17, 18, 19, 20, 21, 22, 30, 62, 64, 75, 100, 103, 121, 164] rfl
          refine hK31 _ _ ?_
          replace hE := hE.cast 164 rfl (show _ = Value.bool false from (congrArg Value.bool (neq_same (apart_low (k := k) (OkTs.pad hoL) hl_tg hh (padL_length (by rw [hll]; exact hm)) hq hlow))))
          refine wp_cond_false (hE.eval rfl) ?_
          refine wp_skip ?_
          refine q_block_n ?_
          refine hK23 _ _ ?_
          refine wp_plain [true, true, true] rfl rfl ?_
          refine s_move hE rfl rfl ?_; clear hE a; intro a hE
          refine s_bin hE rfl rfl (show Bin _ _ _ _ _ (.int .i64 (((i1 + 1) + 1 : Nat) : Int)) from bin_add (by rw [wrap_i64 (by omega) (by omega)]; omega)) rfl ?_; clear hE a; intro a hE
          refine s_assign hE rfl rfl ?_; clear hE a; intro a hE
          refine q_nil ?_
          replace hE : Env a 166 [(3, _), (4, _), (5, _), (6, _), (7, _), (8, _), (9, _), (11, _), (12, _), (13, _), (15, _), (16, _), (17, _), (18, _), (19, _), (20, _), (21, _), (22, _), (30, _), (62, _), (64, _), (75, _), (100, _), (103, _), (121, _), (164, _)] := hE.sel [3, 4, 5, 6, 7, 8, 9, 11, 12, 13, 15, 16, 17, 18, 19, 20, 21, 22, 30, 62, 64, 75, 100, 103, 121, 164] rfl
          replace hE := hE.cast 16 rfl (show _ = Value.int .i64 (((i1 + 1) + 1 : Nat) : Int) from (congrArg _ (by omega)))
          replace hM : Mem _ _ w21 [_, _, _, _, _, _, _, _, _, _, _, _, _, _, _] := hM.pick [2, 3, 4, 5, 6, 7, 8, 9, 10, 11, 12, 13, 14, 15, 16] rfl
          exact ⟨i1 + 1, ⟨by omega, hE.sel [3, 4, 5, 6, 7, 8, 9, 11, 12, 13, 15, 16, 30, 62, 64, 75, 100] rfl, hM⟩, by omega⟩
        · replace hE := hE'; clear hE'
          replace hb154 := of_decide_eq_false hb154
          replace hb154 : ¬ ((i1 + 1) = ((pathZ ((h : Nat) : Int) ((q : Nat) : Int)).getD 0 0)) := by omega
          refine g_no (b := false) hE rfl rfl rfl ?_; clear hE a; intro a hE
          refine g_no (b := false) hE rfl rfl rfl ?_; clear hE a; intro a hE
          refine g_no (b := false) hE rfl rfl rfl ?_; clear hE a; intro a hE
          refine g_no (b := false) hE rfl rfl rfl ?_; clear hE a; intro a hE
          refine g_no (b := false) hE rfl rfl rfl ?_; clear hE a; intro a hE
          refine g_no (b := false) hE rfl rfl rfl ?_; clear hE a; intro a hE
          refine g_no (b := false) hE rfl rfl rfl ?_; clear hE a; intro a hE
          refine g_no (b := false) hE rfl rfl rfl ?_; clear hE a; intro a hE
          refine g_yes hE rfl rfl ?_
          refine s_pickf hE rfl rfl rfl ?_; clear hE a; intro a hE
          refine s_pickf hE rfl rfl rfl ?_; clear hE a; intro a hE
          refine q_nil ?_
          replace hE : Env a 166 [(3, _), (4, _), (5, _), (6, _), (7, _), (8, _), (9, _), (11, _), (12, _), (13, _), (15, _), (16, _), (17, _), (18, _), (19, _), (20, _), (21, _), (22, _), (30, _), (62, _), (64, _), (75, _), (100, _), (103, _), (121, _), (164, _)] := hE.sel [3, 4, 5, 6, 7, 8, 9, 11, 12, 13, 15, 16, 17, 18, 19, 20, 21, 22, 30, 62, 64, 75, 100, 103, 121, 164] rfl
          refine hK31 _ _ ?_
          refine wp_cond_false (hE.eval rfl) ?_
          refine wp_skip ?_
          refine q_block_n ?_
          refine hK23 _ _ ?_
          refine wp_plain [true, true, true] rfl rfl ?_
          refine s_move hE rfl rfl ?_; clear hE a; intro a hE
          refine s_bin hE rfl rfl (show Bin _ _ _ _ _ (.int .i64 (((i1 + 1) + 1 : Nat) : Int)) from bin_add (by rw [wrap_i64 (by omega) (by omega)]; omega)) rfl ?_; clear hE a; intro a hE
          refine s_assign hE rfl rfl ?_; clear hE a; intro a hE
          refine q_nil ?_
          replace hE : Env a 166 [(3, _), (4, _), (5, _), (6, _), (7, _), (8, _), (9, _), (11, _), (12, _), (13, _), (15, _), (16, _), (17, _), (18, _), (19, _), (20, _), (21, _), (22, _), (30, _), (62, _), (64, _), (75, _), (100, _), (103, _), (121, _), (164, _)] := hE.sel [3, 4, 5, 6, 7, 8, 9, 11, 12, 13, 15, 16, 17, 18, 19, 20, 21, 22, 30, 62, 64, 75, 100, 103, 121, 164] rfl
          replace hE := hE.cast 16 rfl (show _ = Value.int .i64 (((i1 + 1) + 1 : Nat) : Int) from (congrArg _ (by omega)))
          replace hM : Mem _ _ w21 [_, _, _, _, _, _, _, _, _, _, _, _, _, _, _] := hM.pick [2, 3, 4, 5, 6, 7, 8, 9, 10, 11, 12, 13, 14, 15, 16] rfl
          exact ⟨i1 + 1, ⟨by omega, hE.sel [3, 4, 5, 6, 7, 8, 9, 11, 12, 13, 15, 16, 30, 62, 64, 75, 100] rfl, hM⟩, by omega⟩
  · replace hE := hE'; clear hE'
    replace hb103 := of_decide_eq_false hb103
    replace hb103 : ¬ ((i1 + 1) < (2 ^ h)) := by omega
    refine wp_cond_false (hE.eval rfl) ?_
    refine wp_exit ?_
    refine q_then_e ?_
    refine q_then_e ?_
    refine q_block_x ?_
    refine hK19 _ _ ?_
    refine wp_seq_k (fun K23 hK23 => ?_)
    refine wp_plain [false, true] rfl rfl ?_
    refine s_call hE rfl Tryd.call9 (works_c  _ (hM.get 14 rfl)) rfl ?_
    rintro e w14 ⟨rfl, hN⟩
    refine ⟨_, rfl, trivial, ?_⟩; clear hE a; intro a hE
    replace hM : Mem _ _ w14 [_, _, _, _, _, _, _, _, _, _, _, _, _, _, _] := hM.call0 hN trivial; clear hN
    refine s_assign hE rfl rfl ?_; clear hE a; intro a hE
    refine q_nil ?_
    replace hE : Env a 166 [(3, _), (4, _), (5, _), (6, _), (7, _), (8, _), (9, _), (11, _), (12, _), (13, _), (15, _), (16, _), (30, _), (62, _), (64, _), (75, _), (100, _), (103, _)] := hE.sel [3, 4, 5, 6, 7, 8, 9, 11, 12, 13, 15, 16, 30, 62, 64, 75, 100, 103] rfl
    refine hK23 _ _ ?_
    refine wp_ret ?_
    refine f_ret1 hE rfl rfl ?_
    exact ⟨(by first | rfl | (simp; done)), hM.pick [] rfl⟩
set_option maxRecDepth 20000 in
set_option maxHeartbeats 2000000 in
theorem treeApart_neg (k : List UInt8) (h : Nat) (v : Value) (ls : List (List UInt8)) (c : Nat) (z : Int) (tg : List UInt8) (vp : Value) (ps : List (List UInt8)) (cp : Nat) (tp : List UInt8) {q : Nat} (w : World) (hG : (glb 0).holds w) (hl_k : k.length = 32) (hr_ls : (rd v 32 ls.length c (ls.flatMap bv)).holds w) (ho_ls : ∀ x, x ∈ ls → x.length = 32) (hl_tg : tg.length = 32) (hr_ps : (rd vp 64 ps.length cp (ps.flatMap bv)).holds w) (ho_ps : ∀ x, x ∈ ps → x.length = 64) (hl_tp : tp.length = 32) (hh5 : 1 ≤ h ∧ h ≤ 5) (hm : min ls.length 32 ≤ 2 ^ h) (hq : q < 2 ^ h) (hzq : z.tmod ((2 ^ h : Nat) : Int) + ((2 ^ h : Nat) : Int) = (q : Int)) (hz0 : z.tmod ((2 ^ h : Nat) : Int) < 0) : Calls Tryd.prog 8 #[.agg (bv k).toArray, .agg ([[.int .i64 ((h : Nat) : Int)], [v]] : List (List Value)).flatten.toArray, .agg ([[.int .i64 z], bv tg, [vp], bv tp] : List (List Value)).flatten.toArray] w fun e w' => e = .returned (.bool true) ∧ Mem w [] w' [] := by
  have hh : 1 ≤ h ∧ h ≤ 12 := by omega
  have hpw := two_pow_le hh
  have hpw1 := hpw.1
  have hpw2 := hpw.2
  have hll : (ls.take (min ls.length 32)).length = min ls.length 32 := by rw [List.length_take]; omega
  have hoL : OkTs (ls.take (min ls.length 32)) := fun x hx => ho_ls x (List.mem_of_mem_take hx)
  have hpl0 : (pathZ ((h : Nat) : Int) ((q : Nat) : Int)).length = h := path_len hh hq
  have hM : Mem w [] w [rd v 32 ls.length c (ls.flatMap bv), rd vp 64 ps.length cp (ps.flatMap bv), glb 0] := Mem.startR w (fun g hg => by
    simp only [List.mem_cons, List.not_mem_nil, or_false] at hg
    rcases hg with rfl | rfl | rfl
    · exact ⟨hr_ls, rfl⟩
    · exact ⟨hr_ps, rfl⟩
    · exact ⟨hG, rfl⟩)
  refine f_enter 166 Tryd.func8 rfl rfl rfl ?_
  intro a hE
  replace hE : Env a 166 [(0, _), (1, _), (2, _)] := hE
  refine wp_seq_k (fun K1 hK1 => ?_)
  refine wp_plain [false, false, false, true] rfl rfl ?_
  refine s_box (ss := [bv k]) [32] hE hM rfl (by simp [Value.cells]) (by simp [*]) rfl ?_; clear hE a; intro a b3 w1 hE hM'
  clear hM; have hM := hM'; clear hM'
  refine s_box (ss := [[.int .i64 ((h : Nat) : Int)], [v]]) [1, 1] hE hM rfl rfl (by simp [*]) rfl ?_; clear hE a; intro a b4 w2 hE hM'
  clear hM; have hM := hM'; clear hM'
  refine s_box (ss := [[.int .i64 z], bv tg, [vp], bv tp]) [1, 32, 1, 32] hE hM rfl rfl (by simp [*]) rfl ?_; clear hE a; intro a b5 w3 hE hM'
  clear hM; have hM := hM'; clear hM'
  refine s_assign hE rfl rfl ?_; clear hE a; intro a hE
  refine q_nil ?_
  replace hE : Env a 166 [(3, _), (4, _), (5, _), (6, _)] := hE.sel [3, 4, 5, 6] rfl
  refine hK1 _ _ ?_
  refine wp_seq_k (fun K2 hK2 => ?_)
  refine wp_seq_k (fun K3 hK3 => ?_)
  refine wp_plain [true, true, true, true, true, true, true, true] rfl rfl ?_
  refine s_fieldAddr hE rfl fo26_0 rfl ?_; clear hE a; intro a hE
  refine s_load1 hE rfl (hM.get 1 rfl) rfl one3 (by intro X h; cases h) rfl ?_; clear hE a; intro a hE
  refine s_bin hE rfl rfl bin_gtr rfl ?_; clear hE a; intro a hE
  refine s_move hE rfl rfl ?_; clear hE a; intro a hE
  replace hE := hE.cast 26 rfl (show _ = Value.bool false from (congrArg Value.bool (decide_eq_false (by omega))))
  refine g_no (b := false) hE rfl rfl rfl ?_; clear hE a; intro a hE
  refine g_no (b := false) hE rfl rfl rfl ?_; clear hE a; intro a hE
  refine g_no (b := false) hE rfl rfl rfl ?_; clear hE a; intro a hE
  refine s_pickf hE rfl rfl rfl ?_; clear hE a; intro a hE
  refine q_nil ?_
  replace hE : Env a 166 [(3, _), (4, _), (5, _), (6, _), (30, _)] := hE.sel [3, 4, 5, 6, 30] rfl
  refine hK3 _ _ ?_
  refine wp_cond_false (hE.eval rfl) ?_
  refine wp_skip ?_
  refine hK2 _ _ ?_
  refine wp_seq_k (fun K4 hK4 => ?_)
  refine wp_drawnM hM (by kernel_rfl) (fun _ => False) [(0, true), (1, true), (2, true), (3, true), (4, true), (5, true), (6, true), (7, true), (8, true), (9, true), (10, false), (11, true), (12, true), (13, true), (14, true), (15, true)] [(10, [(11, 10), (12, 11), (13, 11), (14, 10), (15, 10)])] (by kernel_rfl) rfl ?_
  intro w4 hM' hww4; clear hM; have hM := hM'; clear hM'
  refine s_loadN hE rfl (hM.get 2 rfl) row23 rfl (by intro X h; cases h; simp) rfl ?_; clear hE a; intro a hE
  refine s_fieldAddr hE rfl fo26_0 rfl ?_; clear hE a; intro a hE
  refine s_load1 hE rfl (hM.get 1 rfl) rfl one3 (by intro X h; cases h; simp) rfl ?_; clear hE a; intro a hE
  refine s_fieldAddr hE rfl fo26_1 rfl ?_; clear hE a; intro a hE
  refine s_load1 hE rfl (hM.get 1 rfl) rfl one24 (by intro X h; cases h; simp) rfl ?_; clear hE a; intro a hE
  refine s_fieldAddr hE rfl fo26_1 rfl ?_; clear hE a; intro a hE
  refine s_load1 hE rfl (hM.get 1 rfl) rfl one24 (by intro X h; cases h; simp) rfl ?_; clear hE a; intro a hE
  refine s_len hE rfl Tryd.underlying24 (rd_slice (hM.get 3 rfl)) rfl ?_; clear hE a; intro a hE
  refine s_min hE rfl rfl rfl ?_; clear hE a; intro a hE
  replace hE := hE.cast 41 rfl (show _ = Value.int .i64 ((min ls.length 32 : Nat) : Int) from congrArg (Value.int .i64) (by split <;> omega))
  have hcap42 := rd_len (hM.get 3 rfl)
  refine s_slice (l := 0) (h := min ls.length 32) (mx' := c) hE rfl (hM.get 3 rfl) slt24 rfl ⟨_, rfl⟩ rfl (by simp) (Nat.zero_le _) (by first | omega | (simp; omega) | decide +kernel) (by first | omega | (simp; omega) | decide +kernel) (Nat.le_refl _) rfl ?_; clear hE a; intro a v42 hE hr42 hvb42
  replace hr42 := rd_takeR (f := bv) (ls := ls) (fun x hx => ((bv_length _).trans (ho_ls x hx))) (by first | omega | (simp; omega) | decide +kernel) hr42
  replace hM := hM.addPart 3 rfl hr42 hvb42; clear hr42
  refine s_call hE rfl Tryd.call10 (tnew_c k h _ (ls.take (min ls.length 32)) _ _ (hM.get 6 rfl) (hM.get 0 rfl) hl_k (ok_take ho_ls) (by first | decide | omega) (by rw [hll]; exact hm)) rfl ?_
  rintro e w5 ⟨b43, u43, rfl, hN⟩
  refine ⟨_, rfl, hN.sta0 _, ?_⟩; clear hE a; intro a hE
  replace hM : Mem _ _ w5 [_, _, _, _, _, _, _, _, _] := hM.call0 hN ⟨rfl, rfl, trivial⟩; clear hN
  refine s_move hE rfl rfl ?_; clear hE a; intro a hE
  refine s_extract hE rfl rfl rfl ?_; clear hE a; intro a hE
  refine s_extract hE rfl rfl rfl ?_; clear hE a; intro a hE
  refine s_assign hE rfl rfl ?_; clear hE a; intro a hE
  refine s_assign hE rfl rfl ?_; clear hE a; intro a hE
  refine q_nil ?_
  replace hE : Env a 166 [(3, _), (4, _), (5, _), (6, _), (7, _), (8, _), (30, _)] := hE.sel [3, 4, 5, 6, 7, 8, 30] rfl
  refine hK4 _ _ ?_
  refine wp_seq_k (fun K5 hK5 => ?_)
  refine wp_drawnM hM (by kernel_rfl) (fun _ => False) [(0, true), (1, true), (2, true), (3, true), (4, true), (5, true), (6, true), (7, true), (8, true), (9, true), (10, false), (11, true), (12, true), (13, true), (14, true), (15, true)] [(10, [(11, 10), (12, 11), (13, 11), (14, 10), (15, 10)])] (by kernel_rfl) rfl ?_
  intro w6 hM' hww6; clear hM; have hM := hM'; clear hM'
  refine s_loadN hE rfl (hM.get 5 rfl) row23 rfl (by intro X h; cases h; simp) rfl ?_; clear hE a; intro a hE
  refine s_fieldAddr hE rfl fo26_0 rfl ?_; clear hE a; intro a hE
  refine s_load1 hE rfl (hM.get 4 rfl) rfl one3 (by intro X h; cases h; simp) rfl ?_; clear hE a; intro a hE
  refine s_fieldAddr hE rfl fo26_1 rfl ?_; clear hE a; intro a hE
  refine s_load1 hE rfl (hM.get 4 rfl) rfl one24 (by intro X h; cases h; simp) rfl ?_; clear hE a; intro a hE
  refine s_fieldAddr hE rfl fo26_1 rfl ?_; clear hE a; intro a hE
  refine s_load1 hE rfl (hM.get 4 rfl) rfl one24 (by intro X h; cases h; simp) rfl ?_; clear hE a; intro a hE
  refine s_len hE rfl Tryd.underlying24 (rd_slice (hM.get 6 rfl)) rfl ?_; clear hE a; intro a hE
  refine s_min hE rfl rfl rfl ?_; clear hE a; intro a hE
  replace hE := hE.cast 55 rfl (show _ = Value.int .i64 ((min ls.length 32 : Nat) : Int) from congrArg (Value.int .i64) (by split <;> omega))
  have hcap56 := rd_len (hM.get 6 rfl)
  refine s_slice (l := 0) (h := min ls.length 32) (mx' := c) hE rfl (hM.get 6 rfl) slt24 rfl ⟨_, rfl⟩ rfl (by simp) (Nat.zero_le _) (by first | omega | (simp; omega) | decide +kernel) (by first | omega | (simp; omega) | decide +kernel) (Nat.le_refl _) rfl ?_; clear hE a; intro a v56 hE hr56 hvb56
  replace hr56 := rd_takeR (f := bv) (ls := ls) (fun x hx => ((bv_length _).trans (ho_ls x hx))) (by first | omega | (simp; omega) | decide +kernel) hr56
  replace hM := hM.addPart 6 rfl hr56 hvb56; clear hr56
  refine s_call hE rfl Tryd.call10 (tnew_c k h _ (ls.take (min ls.length 32)) _ _ (hM.get 9 rfl) (hM.get 0 rfl) hl_k (ok_take ho_ls) (by first | decide | omega) (by rw [hll]; exact hm)) rfl ?_
  rintro e w7 ⟨b57, u57, rfl, hN⟩
  refine ⟨_, rfl, hN.sta0 _, ?_⟩; clear hE a; intro a hE
  replace hM : Mem _ _ w7 [_, _, _, _, _, _, _, _, _, _, _, _] := hM.call0 hN ⟨rfl, rfl, trivial⟩; clear hN
  refine s_move hE rfl rfl ?_; clear hE a; intro a hE
  refine s_extract hE rfl rfl rfl ?_; clear hE a; intro a hE
  refine s_extract hE rfl rfl rfl ?_; clear hE a; intro a hE
  refine s_assign hE rfl rfl ?_; clear hE a; intro a hE
  refine s_assign hE rfl rfl ?_; clear hE a; intro a hE
  refine q_nil ?_
  replace hE : Env a 166 [(3, _), (4, _), (5, _), (6, _), (7, _), (8, _), (9, _), (10, _), (30, _)] := hE.sel [3, 4, 5, 6, 7, 8, 9, 10, 30] rfl
  refine hK5 _ _ ?_
  refine wp_seq_k (fun K6 hK6 => ?_)
  refine wp_seq_k (fun K7 hK7 => ?_)
  refine wp_plain [true, true, true] rfl rfl ?_
  refine s_move hE rfl rfl ?_; clear hE a; intro a hE
  refine s_move hE rfl rfl ?_; clear hE a; intro a hE
  refine s_bin hE rfl rfl bin_neq rfl ?_; clear hE a; intro a hE
  replace hE := hE.cast 62 rfl (show _ = Value.bool false from (congrArg Value.bool (by decide)))
  refine q_nil ?_
  replace hE : Env a 166 [(3, _), (4, _), (5, _), (6, _), (7, _), (8, _), (9, _), (30, _), (62, _)] := hE.sel [3, 4, 5, 6, 7, 8, 9, 30, 62] rfl
  refine hK7 _ _ ?_
  refine wp_cond_false (hE.eval rfl) ?_
  refine wp_skip ?_
  refine hK6 _ _ ?_
  refine wp_seq_k (fun K8 hK8 => ?_)
  refine wp_seq_k (fun K9 hK9 => ?_)
  refine wp_plain [true, true] rfl rfl ?_
  refine s_move hE rfl rfl ?_; clear hE a; intro a hE
  refine s_bin hE rfl rfl bin_neq rfl ?_; clear hE a; intro a hE
  replace hE := hE.cast 64 rfl (show _ = Value.bool false from (congrArg Value.bool (by decide)))
  refine q_nil ?_
  replace hE : Env a 166 [(3, _), (4, _), (5, _), (6, _), (7, _), (8, _), (9, _), (30, _), (62, _), (64, _)] := hE.sel [3, 4, 5, 6, 7, 8, 9, 30, 62, 64] rfl
  refine hK9 _ _ ?_
  refine wp_cond_false (hE.eval rfl) ?_
  refine wp_skip ?_
  refine hK8 _ _ ?_
  refine wp_seq_k (fun K10 hK10 => ?_)
  refine wp_plain [true, true, true, true, true] rfl rfl ?_
  refine s_fieldAddr hE rfl fo26_0 rfl ?_; clear hE a; intro a hE
  refine s_load1 hE rfl (hM.get 7 rfl) rfl one3 (by intro X h; cases h) rfl ?_; clear hE a; intro a hE
  refine s_conv hE rfl (cnv_int Tryd.underlying3 Tryd.underlying33 (wrap_u64 (by omega) (by omega))) rfl ?_; clear hE a; intro a hE
  refine s_bin hE rfl rfl (bin_one_shl (by omega)) rfl ?_; clear hE a; intro a hE
  refine s_assign hE rfl rfl ?_; clear hE a; intro a hE
  refine q_nil ?_
  replace hE : Env a 166 [(3, _), (4, _), (5, _), (6, _), (7, _), (8, _), (9, _), (11, _), (30, _), (62, _), (64, _)] := hE.sel [3, 4, 5, 6, 7, 8, 9, 11, 30, 62, 64] rfl
  refine hK10 _ _ ?_
  refine wp_seq_k (fun K11 hK11 => ?_)
  refine wp_plain [true, true, true, true, true] rfl rfl ?_
  refine s_fieldAddr hE rfl fo46_0 rfl ?_; clear hE a; intro a hE
  refine s_load1 hE rfl (hM.get 6 rfl) rfl one3 (by intro X h; cases h) rfl ?_; clear hE a; intro a hE
  refine s_move hE rfl rfl ?_; clear hE a; intro a hE
  refine s_bin hE rfl rfl (bin_tmod (n := 2 ^ h) (by omega) rfl) rfl ?_; clear hE a; intro a hE
  refine s_assign hE rfl rfl ?_; clear hE a; intro a hE
  refine q_nil ?_
  replace hE : Env a 166 [(3, _), (4, _), (5, _), (6, _), (7, _), (8, _), (9, _), (11, _), (12, _), (30, _), (62, _), (64, _)] := hE.sel [3, 4, 5, 6, 7, 8, 9, 11, 12, 30, 62, 64] rfl
  refine hK11 _ _ ?_
  refine wp_seq_k (fun K12 hK12 => ?_)
  refine wp_seq_k (fun K13 hK13 => ?_)
  refine wp_plain [true, true] rfl rfl ?_
  refine s_move hE rfl rfl ?_; clear hE a; intro a hE
  refine s_bin hE rfl rfl bin_lss rfl ?_; clear hE a; intro a hE
  refine q_nil ?_
  replace hE : Env a 166 [(3, _), (4, _), (5, _), (6, _), (7, _), (8, _), (9, _), (11, _), (12, _), (30, _), (62, _), (64, _), (75, _)] := hE.sel [3, 4, 5, 6, 7, 8, 9, 11, 12, 30, 62, 64, 75] rfl
  refine hK13 _ _ ?_
  replace hE := hE.cast 75 rfl (show _ = Value.bool true from (congrArg Value.bool (decide_eq_true (by omega))))
  refine wp_cond_true (hE.eval rfl) ?_
  refine wp_plain [true, true, true, true] rfl rfl ?_
  refine s_move hE rfl rfl ?_; clear hE a; intro a hE
  refine s_move hE rfl rfl ?_; clear hE a; intro a hE
  refine s_bin hE rfl rfl (bin_add (by rw [hzq, wrap_i64 (by omega) (by omega)])) rfl ?_; clear hE a; intro a hE
  refine s_assign hE rfl rfl ?_; clear hE a; intro a hE
  refine q_nil ?_
  replace hE : Env a 166 [(3, _), (4, _), (5, _), (6, _), (7, _), (8, _), (9, _), (11, _), (12, _), (30, _), (62, _), (64, _), (75, _)] := hE.sel [3, 4, 5, 6, 7, 8, 9, 11, 12, 30, 62, 64, 75] rfl
  refine hK12 _ _ ?_
  refine wp_seq_k (fun K14 hK14 => ?_)
  refine wp_plain [true, true, true, true, false, true, true, true, false, false, true] rfl rfl ?_
  refine s_move hE rfl rfl ?_; clear hE a; intro a hE
  refine s_move hE rfl rfl ?_; clear hE a; intro a hE
  refine s_move hE rfl rfl ?_; clear hE a; intro a hE
  refine s_bin hE rfl rfl (show Bin _ _ _ _ _ (.int .i64 (((2 ^ h) + q : Nat) : Int)) from bin_add (by rw [wrap_i64 (by omega) (by omega)]; omega)) rfl ?_; clear hE a; intro a hE
  obtain ⟨cs1, hs1⟩ := own_rd (hM.get 4 rfl)
  refine s_call hE rfl Tryd.call13 (ttagI_c b43 h k u43 (allT k (2 ^ h) (padL (2 ^ h) (ls.take (min ls.length 32)))) cs1 (((2 ^ h) + q : Nat) : Int) _ (hM.get 3 rfl) hs1 hl_k (OkTs.all (OkTs.pad (ok_take ho_ls))) (by first | decide | omega) (allT_len (Nat.le_of_eq (padL_length (by rw [hll]; exact hm))))) rfl ?_
  rintro e w8 ⟨rfl, hN⟩
  refine ⟨_, rfl, trivial, ?_⟩; clear hE a; intro a hE
  replace hM : Mem _ _ w8 [_, _, _, _, _, _, _, _, _, _, _, _] := hM.call0 hN trivial; clear hN
  refine s_move hE rfl rfl ?_; clear hE a; intro a hE
  refine s_extract hE rfl rfl rfl ?_; clear hE a; intro a hE
  refine s_extract hE rfl rfl rfl ?_; clear hE a; intro a hE
  refine s_alloc [32] hE hM zero34 rfl rfl ?_; clear hE a; intro a b13 w9 hE hM'
  clear hM; have hM := hM'; clear hM'
  refine s_storeSeg 0 hE rfl rfl hM rfl sz34 ((bv_length _).trans (tagZ_len (OkTs.all (OkTs.pad (ok_take ho_ls))))) (bv_one _) rfl ((bv_length _).trans (by first | (simp; done) | (simp [*]; done) | (simp; omega))) rfl (by intro X h; cases h) ?_; intro w10 hM'; clear hM; have hM := hM'; clear hM'
  simp only [List.set_cons_zero, List.set_cons_succ] at hM
  refine s_assign hE rfl rfl ?_; clear hE a; intro a hE
  refine q_nil ?_
  replace hE : Env a 166 [(3, _), (4, _), (5, _), (6, _), (7, _), (8, _), (9, _), (11, _), (12, _), (13, _), (30, _), (62, _), (64, _), (75, _)] := hE.sel [3, 4, 5, 6, 7, 8, 9, 11, 12, 13, 30, 62, 64, 75] rfl
  refine hK14 _ _ ?_
  refine wp_seq_k (fun K15 hK15 => ?_)
  refine wp_plain [true, true, true, true, false] rfl rfl ?_
  refine s_move hE rfl rfl ?_; clear hE a; intro a hE
  refine s_move hE rfl rfl ?_; clear hE a; intro a hE
  refine s_fieldAddr hE rfl fo46_1 rfl ?_; clear hE a; intro a hE
  refine s_loadN hE rfl (hM.get 7 rfl) row34 rfl (by intro X h; cases h) rfl ?_; clear hE a; intro a hE
  replace hM : Mem _ _ w10 [_, _, _, _, _, _, _, _, _, _, _, _, _] := hM.pick [2, 0, 1, 3, 4, 5, 6, 7, 8, 9, 10, 11, 12] rfl
  refine s_call hE rfl Tryd.call11 (tsetI_c b57 h k tg u57 (padL (2 ^ h) (ls.take (min ls.length 32))) ((q : Nat) : Int) _ (hM.get 12 rfl) (hM.get 2 rfl) (hM.get 0 rfl) (fun x hx => ((apart_of_get hM.apart (i := 0) (j := 2) rfl rfl (by decide)).1 x hx).1) (fun x hx => ((apart_of_get hM.apart (i := 0) (j := 12) rfl rfl (by decide)).1 x hx).2) hl_k (OkTs.pad (ok_take ho_ls)) (by first | decide | omega) (padL_length (by rw [hll]; exact hm)) hl_tg) rfl ?_
  rintro e w11 ⟨q91, rfl, hN⟩
  refine ⟨_, rfl, trivial, ?_⟩; clear hE a; intro a hE
  replace hM : Mem _ _ w11 [_, _, _, _, _, _, _, _, _, _, _, _, _, _] := hM.call1' hN ⟨rfl, rfl, trivial⟩; clear hN
  refine q_nil ?_
  replace hE : Env a 166 [(3, _), (4, _), (5, _), (6, _), (7, _), (8, _), (9, _), (11, _), (12, _), (13, _), (30, _), (62, _), (64, _), (75, _)] := hE.sel [3, 4, 5, 6, 7, 8, 9, 11, 12, 13, 30, 62, 64, 75] rfl
  refine hK15 _ _ ?_
  refine wp_seq_k (fun K16 hK16 => ?_)
  refine wp_plain [true, true, true, false, true] rfl rfl ?_
  refine s_fieldAddr hE rfl fo26_0 rfl ?_; clear hE a; intro a hE
  refine s_load1 hE rfl (hM.get 9 rfl) rfl one3 (by intro X h; cases h) rfl ?_; clear hE a; intro a hE
  refine s_move hE rfl rfl ?_; clear hE a; intro a hE
  refine s_call hE rfl Tryd.call15 (tpathI_c ((h : Nat) : Int) ((q : Nat) : Int) _) rfl ?_
  rintro e w12 ⟨v95, rfl, hN⟩
  refine ⟨_, rfl, trivial, ?_⟩; clear hE a; intro a hE
  replace hM : Mem _ _ w12 [_, _, _, _, _, _, _, _, _, _, _, _, _, _, _] := hM.call0 hN ⟨rfl, trivial⟩; clear hN
  refine s_assign hE rfl rfl ?_; clear hE a; intro a hE
  refine q_nil ?_
  replace hE : Env a 166 [(3, _), (4, _), (5, _), (6, _), (7, _), (8, _), (9, _), (11, _), (12, _), (13, _), (15, _), (30, _), (62, _), (64, _), (75, _)] := hE.sel [3, 4, 5, 6, 7, 8, 9, 11, 12, 13, 15, 30, 62, 64, 75] rfl
  refine hK16 _ _ ?_
  refine wp_seq_k (fun K17 hK17 => ?_)
  refine wp_seq_k (fun K18 hK18 => ?_)
  refine wp_plain [true, true, true, true, true] rfl rfl ?_
  refine s_move hE rfl rfl ?_; clear hE a; intro a hE
  refine s_len hE rfl Tryd.underlying35 (own_slice (hM.get 0 rfl)) rfl ?_; clear hE a; intro a hE
  refine s_fieldAddr hE rfl fo26_0 rfl ?_; clear hE a; intro a hE
  refine s_load1 hE rfl (hM.get 10 rfl) rfl one3 (by intro X h; cases h) rfl ?_; clear hE a; intro a hE
  refine s_bin hE rfl rfl bin_neq rfl ?_; clear hE a; intro a hE
  refine q_nil ?_
  replace hE : Env a 166 [(3, _), (4, _), (5, _), (6, _), (7, _), (8, _), (9, _), (11, _), (12, _), (13, _), (15, _), (30, _), (62, _), (64, _), (75, _), (100, _)] := hE.sel [3, 4, 5, 6, 7, 8, 9, 11, 12, 13, 15, 30, 62, 64, 75, 100] rfl
  refine hK18 _ _ ?_
  replace hE := hE.cast 100 rfl (show _ = Value.bool false from (congrArg Value.bool (by rw [path_len hh hq]; simp)))
  refine wp_cond_false (hE.eval rfl) ?_
  refine wp_skip ?_
  refine hK17 _ _ ?_
  refine wp_seq_k (fun K19 hK19 => ?_)
  refine wp_seq_k (fun K20 hK20 => ?_)
  refine wp_plain [true] rfl rfl ?_
  refine s_assign hE rfl rfl ?_; clear hE a; intro a hE
  refine q_nil ?_
  refine hK20 _ _ ?_
  refine wp_block ?_
  replace hE := hE.cast 16 rfl (show _ = Value.int .i64 ((0 + 1 : Nat) : Int) from rfl)
  refine c_loop (fun (i1 : Nat) a w' => i1 ≤ 2 ^ h - 1 ∧ Env a 166 [(3, .pointer (some ⟨b3, 0, none⟩)), (4, .pointer (some ⟨b4, 0, none⟩)), (5, .pointer (some ⟨b5, 0, none⟩)), (6, .bool false), (7, .pointer (some ⟨b43, 0, none⟩)), (8, .int .i64 0), (9, .pointer (some ⟨b57, 0, none⟩)), (11, .int .i64 ((2 ^ h : Nat) : Int)), (12, .int .i64 ((q : Nat) : Int)), (13, .pointer (some ⟨b13, 0, none⟩)), (15, v95), (16, .int .i64 ((i1 + 1 : Nat) : Int)), (30, .bool false), (62, .bool false), (64, .bool false), (75, .bool true), (100, .bool false)] ∧ Mem w [] w' [own v95 1 ((pathZ ((h : Nat) : Int) ((q : Nat) : Int)).length) ((pathZ ((h : Nat) : Int) ((q : Nat) : Int)).flatMap intC), own q91 1 ((chgZ k h (padL (2 ^ h) (ls.take (min ls.length 32))) ((q : Nat) : Int) tg).length) ((chgZ k h (padL (2 ^ h) (ls.take (min ls.length 32))) ((q : Nat) : Int) tg).flatMap intC), own u57 32 ((allT k (2 ^ h) (lvZ (padL (2 ^ h) (ls.take (min ls.length 32))) h ((q : Nat) : Int) tg)).length) ((allT k (2 ^ h) (lvZ (padL (2 ^ h) (ls.take (min ls.length 32))) h ((q : Nat) : Int) tg)).flatMap bv), blk b13 [bv (tagZ (allT k (2 ^ h) (padL (2 ^ h) (ls.take (min ls.length 32)))) (2 ^ h) (((2 ^ h) + q : Nat) : Int))] [32] 34, blk b57 [bv k, [.int .i64 ((h : Nat) : Int)], [u57]] [32, 1, 1] 73, rd v56 32 ((ls.take (min ls.length 32)).length) (c - 0) ((ls.take (min ls.length 32)).flatMap bv), blk b43 [bv k, [.int .i64 ((h : Nat) : Int)], [u43]] [32, 1, 1] 73, own u43 32 ((allT k (2 ^ h) (padL (2 ^ h) (ls.take (min ls.length 32)))).length) ((allT k (2 ^ h) (padL (2 ^ h) (ls.take (min ls.length 32)))).flatMap bv), rd v42 32 ((ls.take (min ls.length 32)).length) (c - 0) ((ls.take (min ls.length 32)).flatMap bv), blk b5 [[.int .i64 z], bv tg, [vp], bv tp] [1, 32, 1, 32] 46, blk b4 [[.int .i64 ((h : Nat) : Int)], [v]] [1, 1] 26, blk b3 [bv k] [32] 23, rd v 32 ls.length c (ls.flatMap bv), rd vp 64 ps.length cp (ps.flatMap bv), glb 0]) (fun i1 => 2 ^ h - 1 - i1) 0 ⟨Nat.zero_le _, hE.sel [3, 4, 5, 6, 7, 8, 9, 11, 12, 13, 15, 16, 30, 62, 64, 75, 100] rfl, hM⟩ ?_
  clear hE hM a; rintro i1 a w13 ⟨hi1, hE, hM⟩
  refine wp_seq_k (fun K21 hK21 => ?_)
  refine wp_seq_k (fun K22 hK22 => ?_)
  refine wp_plain [true, true, true] rfl rfl ?_
  refine s_move hE rfl rfl ?_; clear hE a; intro a hE
  refine s_move hE rfl rfl ?_; clear hE a; intro a hE
  refine s_bin hE rfl rfl bin_lss rfl ?_; clear hE a; intro a hE
  refine q_nil ?_
  replace hE : Env a 166 [(3, _), (4, _), (5, _), (6, _), (7, _), (8, _), (9, _), (11, _), (12, _), (13, _), (15, _), (16, _), (30, _), (62, _), (64, _), (75, _), (100, _), (103, _)] := hE.sel [3, 4, 5, 6, 7, 8, 9, 11, 12, 13, 15, 16, 30, 62, 64, 75, 100, 103] rfl
  refine hK22 _ _ ?_
  refine hE.split 103 rfl (fun hb103 hE' => ?_) (fun hb103 hE' => ?_)
  · replace hE := hE'; clear hE'
    replace hb103 := of_decide_eq_true hb103
    replace hb103 : (i1 + 1) < (2 ^ h) := by omega
    replace hb103 : i1 < 2 ^ h - 1 := by omega
    refine wp_cond_true (hE.eval rfl) ?_
    refine wp_skip ?_
    refine hK21 _ _ ?_
    refine wp_seq_k (fun K23 hK23 => ?_)
    refine wp_block ?_
    refine wp_seq_k (fun K24 hK24 => ?_)
    refine wp_plain [true, true, false, true, true, true, false, false, true] rfl rfl ?_
    refine s_move hE rfl rfl ?_; clear hE a; intro a hE
    refine s_move hE rfl rfl ?_; clear hE a; intro a hE
    obtain ⟨cs2, hs2⟩ := own_rd (hM.get 7 rfl)
    refine s_call hE rfl Tryd.call24 (tnodeI_c b43 h k u43 (allT k (2 ^ h) (padL (2 ^ h) (ls.take (min ls.length 32)))) cs2 ((i1 + 1 : Nat) : Int) _ (hM.get 6 rfl) hs2 hl_k (OkTs.all (OkTs.pad (ok_take ho_ls))) (by first | decide | omega) (allT_len (Nat.le_of_eq (padL_length (by rw [hll]; exact hm))))) rfl ?_
    rintro e w14 ⟨rfl, hN⟩
    refine ⟨_, rfl, trivial, ?_⟩; clear hE a; intro a hE
    replace hM : Mem _ _ w14 [_, _, _, _, _, _, _, _, _, _, _, _, _, _, _] := hM.call0 hN trivial; clear hN
    refine s_move hE rfl rfl ?_; clear hE a; intro a hE
    refine s_extract hE rfl rfl rfl ?_; clear hE a; intro a hE
    refine s_extract hE rfl rfl rfl ?_; clear hE a; intro a hE
    refine s_alloc [64] hE hM zero52 rfl rfl ?_; clear hE a; intro a b17 w15 hE hM'
    clear hM; have hM := hM'; clear hM'
    refine s_storeSeg 0 hE rfl rfl hM rfl sz52 ((bv_length _).trans (nodeZ_len (OkTs.all (OkTs.pad (ok_take ho_ls))))) (bv_one _) rfl ((bv_length _).trans (by first | (simp; done) | (simp [*]; done) | (simp; omega))) rfl (by intro X h; cases h) ?_; intro w16 hM'; clear hM; have hM := hM'; clear hM'
    simp only [List.set_cons_zero, List.set_cons_succ] at hM
    refine s_assign hE rfl rfl ?_; clear hE a; intro a hE
    refine q_nil ?_
    replace hE : Env a 166 [(3, _), (4, _), (5, _), (6, _), (7, _), (8, _), (9, _), (11, _), (12, _), (13, _), (15, _), (16, _), (17, _), (18, _), (30, _), (62, _), (64, _), (75, _), (100, _), (103, _)] := hE.sel [3, 4, 5, 6, 7, 8, 9, 11, 12, 13, 15, 16, 17, 18, 30, 62, 64, 75, 100, 103] rfl
    refine hK24 _ _ ?_
    refine wp_seq_k (fun K25 hK25 => ?_)
    refine wp_plain [true, true, false, true, true, true, false, false, true] rfl rfl ?_
    refine s_move hE rfl rfl ?_; clear hE a; intro a hE
    refine s_move hE rfl rfl ?_; clear hE a; intro a hE
    obtain ⟨cs3, hs3⟩ := own_rd (hM.get 3 rfl)
    refine s_call hE rfl Tryd.call24 (tnodeI_c b57 h k u57 (allT k (2 ^ h) (lvZ (padL (2 ^ h) (ls.take (min ls.length 32))) h ((q : Nat) : Int) tg)) cs3 ((i1 + 1 : Nat) : Int) _ (hM.get 5 rfl) hs3 hl_k (OkTs.all (lvZ_ok (OkTs.pad (ok_take ho_ls)) hl_tg)) (by first | decide | omega) (allT_len (Nat.le_of_eq (lvZ_len.trans (padL_length (by rw [hll]; exact hm)))))) rfl ?_
    rintro e w17 ⟨rfl, hN⟩
    refine ⟨_, rfl, trivial, ?_⟩; clear hE a; intro a hE
    replace hM : Mem _ _ w17 [_, _, _, _, _, _, _, _, _, _, _, _, _, _, _, _] := hM.call0 hN trivial; clear hN
    refine s_move hE rfl rfl ?_; clear hE a; intro a hE
    refine s_extract hE rfl rfl rfl ?_; clear hE a; intro a hE
    refine s_extract hE rfl rfl rfl ?_; clear hE a; intro a hE
    refine s_alloc [64] hE hM zero52 rfl rfl ?_; clear hE a; intro a b19 w18 hE hM'
    clear hM; have hM := hM'; clear hM'
    refine s_storeSeg 0 hE rfl rfl hM rfl sz52 ((bv_length _).trans (nodeZ_len (OkTs.all (lvZ_ok (OkTs.pad (ok_take ho_ls)) hl_tg)))) (bv_one _) rfl ((bv_length _).trans (by first | (simp; done) | (simp [*]; done) | (simp; omega))) rfl (by intro X h; cases h) ?_; intro w19 hM'; clear hM; have hM := hM'; clear hM'
    simp only [List.set_cons_zero, List.set_cons_succ] at hM
    refine s_assign hE rfl rfl ?_; clear hE a; intro a hE
    refine q_nil ?_
    replace hE : Env a 166 [(3, _), (4, _), (5, _), (6, _), (7, _), (8, _), (9, _), (11, _), (12, _), (13, _), (15, _), (16, _), (17, _), (18, _), (19, _), (20, _), (30, _), (62, _), (64, _), (75, _), (100, _), (103, _)] := hE.sel [3, 4, 5, 6, 7, 8, 9, 11, 12, 13, 15, 16, 17, 18, 19, 20, 30, 62, 64, 75, 100, 103] rfl
    refine hK25 _ _ ?_
    refine wp_seq_k (fun K26 hK26 => ?_)
    refine wp_plain [true] rfl rfl ?_
    refine s_assign hE rfl rfl ?_; clear hE a; intro a hE
    refine q_nil ?_
    refine hK26 _ _ ?_
    refine wp_seq_k (fun K27 hK27 => ?_)
    refine wp_seq_k (fun K28 hK28 => ?_)
    refine wp_plain [true] rfl rfl ?_
    refine s_assign hE rfl rfl ?_; clear hE a; intro a hE
    refine q_nil ?_
    refine hK28 _ _ ?_
    refine wp_block ?_
    replace hE := hE.cast 21 rfl (show _ = Value.bool (decide ((i1 + 1) ∈ (pathZ ((h : Nat) : Int) ((q : Nat) : Int)).take 0)) from (congrArg Value.bool (by simp)))
    refine c_loop (fun (i2 : Nat) a w' => i2 ≤ (pathZ ((h : Nat) : Int) ((q : Nat) : Int)).length ∧ Env a 166 [(3, .pointer (some ⟨b3, 0, none⟩)), (4, .pointer (some ⟨b4, 0, none⟩)), (5, .pointer (some ⟨b5, 0, none⟩)), (6, .bool false), (7, .pointer (some ⟨b43, 0, none⟩)), (8, .int .i64 0), (9, .pointer (some ⟨b57, 0, none⟩)), (11, .int .i64 ((2 ^ h : Nat) : Int)), (12, .int .i64 ((q : Nat) : Int)), (13, .pointer (some ⟨b13, 0, none⟩)), (15, v95), (16, .int .i64 ((i1 + 1 : Nat) : Int)), (17, .pointer (some ⟨b17, 0, none⟩)), (18, .int .i64 ((eZ 1 (2 ^ h) ((i1 + 1 : Nat) : Int) : Nat) : Int)), (19, .pointer (some ⟨b19, 0, none⟩)), (20, .int .i64 ((eZ 1 (2 ^ h) ((i1 + 1 : Nat) : Int) : Nat) : Int)), (21, .bool (decide ((i1 + 1) ∈ (pathZ ((h : Nat) : Int) ((q : Nat) : Int)).take i2))), (22, .int .i64 ((i2 : Nat) : Int)), (30, .bool false), (62, .bool false), (64, .bool false), (75, .bool true), (100, .bool false), (103, .bool true)] ∧ Mem w [] w' [blk b19 [bv (nodeZ (allT k (2 ^ h) (lvZ (padL (2 ^ h) (ls.take (min ls.length 32))) h ((q : Nat) : Int) tg)) (2 ^ h) ((i1 + 1 : Nat) : Int))] [64] 52, blk b17 [bv (nodeZ (allT k (2 ^ h) (padL (2 ^ h) (ls.take (min ls.length 32)))) (2 ^ h) ((i1 + 1 : Nat) : Int))] [64] 52, own v95 1 ((pathZ ((h : Nat) : Int) ((q : Nat) : Int)).length) ((pathZ ((h : Nat) : Int) ((q : Nat) : Int)).flatMap intC), own q91 1 ((chgZ k h (padL (2 ^ h) (ls.take (min ls.length 32))) ((q : Nat) : Int) tg).length) ((chgZ k h (padL (2 ^ h) (ls.take (min ls.length 32))) ((q : Nat) : Int) tg).flatMap intC), own u57 32 ((allT k (2 ^ h) (lvZ (padL (2 ^ h) (ls.take (min ls.length 32))) h ((q : Nat) : Int) tg)).length) ((allT k (2 ^ h) (lvZ (padL (2 ^ h) (ls.take (min ls.length 32))) h ((q : Nat) : Int) tg)).flatMap bv), blk b13 [bv (tagZ (allT k (2 ^ h) (padL (2 ^ h) (ls.take (min ls.length 32)))) (2 ^ h) (((2 ^ h) + q : Nat) : Int))] [32] 34, blk b57 [bv k, [.int .i64 ((h : Nat) : Int)], [u57]] [32, 1, 1] 73, rd v56 32 ((ls.take (min ls.length 32)).length) (c - 0) ((ls.take (min ls.length 32)).flatMap bv), blk b43 [bv k, [.int .i64 ((h : Nat) : Int)], [u43]] [32, 1, 1] 73, own u43 32 ((allT k (2 ^ h) (padL (2 ^ h) (ls.take (min ls.length 32)))).length) ((allT k (2 ^ h) (padL (2 ^ h) (ls.take (min ls.length 32)))).flatMap bv), rd v42 32 ((ls.take (min ls.length 32)).length) (c - 0) ((ls.take (min ls.length 32)).flatMap bv), blk b5 [[.int .i64 z], bv tg, [vp], bv tp] [1, 32, 1, 32] 46, blk b4 [[.int .i64 ((h : Nat) : Int)], [v]] [1, 1] 26, blk b3 [bv k] [32] 23, rd v 32 ls.length c (ls.flatMap bv), rd vp 64 ps.length cp (ps.flatMap bv), glb 0]) (fun i2 => (pathZ ((h : Nat) : Int) ((q : Nat) : Int)).length - i2) 0 ⟨Nat.zero_le _, hE.sel [3, 4, 5, 6, 7, 8, 9, 11, 12, 13, 15, 16, 17, 18, 19, 20, 21, 22, 30, 62, 64, 75, 100, 103] rfl, hM⟩ ?_
    clear hE hM a; rintro i2 a w20 ⟨hi2, hE, hM⟩
    refine wp_seq_k (fun K29 hK29 => ?_)
    refine wp_seq_k (fun K30 hK30 => ?_)
    refine wp_plain [true, true, true, true] rfl rfl ?_
    refine s_move hE rfl rfl ?_; clear hE a; intro a hE
    refine s_move hE rfl rfl ?_; clear hE a; intro a hE
    refine s_len hE rfl Tryd.underlying35 (own_slice (hM.get 2 rfl)) rfl ?_; clear hE a; intro a hE
    refine s_bin hE rfl rfl bin_lss rfl ?_; clear hE a; intro a hE
    refine q_nil ?_
    replace hE : Env a 166 [(3, _), (4, _), (5, _), (6, _), (7, _), (8, _), (9, _), (11, _), (12, _), (13, _), (15, _), (16, _), (17, _), (18, _), (19, _), (20, _), (21, _), (22, _), (30, _), (62, _), (64, _), (75, _), (100, _), (103, _), (121, _)] := hE.sel [3, 4, 5, 6, 7, 8, 9, 11, 12, 13, 15, 16, 17, 18, 19, 20, 21, 22, 30, 62, 64, 75, 100, 103, 121] rfl
    refine hK30 _ _ ?_
    refine hE.split 121 rfl (fun hb121 hE' => ?_) (fun hb121 hE' => ?_)
    · replace hE := hE'; clear hE'
      replace hb121 := of_decide_eq_true hb121
      replace hb121 : i2 < ((pathZ ((h : Nat) : Int) ((q : Nat) : Int)).length) := by omega
      replace hb121 : i2 < (pathZ ((h : Nat) : Int) ((q : Nat) : Int)).length := by omega
      refine wp_cond_true (hE.eval rfl) ?_
      refine wp_skip ?_
      refine hK29 _ _ ?_
      refine wp_seq_k (fun K31 hK31 => ?_)
      refine wp_block ?_
      refine wp_plain [true, true, true, true, true, true, true, true, true, true] rfl rfl ?_
      refine s_move hE rfl rfl ?_; clear hE a; intro a hE
      refine s_move hE rfl rfl ?_; clear hE a; intro a hE
      refine hE.split 125 rfl (fun hb125 hE' => ?_) (fun hb125 hE' => ?_)
      · replace hE := hE'; clear hE'
        replace hb125 := of_decide_eq_true hb125
        refine g_no (b := true) hE rfl rfl rfl ?_; clear hE a; intro a hE
        refine g_no (b := true) hE rfl rfl rfl ?_; clear hE a; intro a hE
        refine g_no (b := true) hE rfl rfl rfl ?_; clear hE a; intro a hE
        refine g_no (b := true) hE rfl rfl rfl ?_; clear hE a; intro a hE
        refine g_no (b := true) hE rfl rfl rfl ?_; clear hE a; intro a hE
        refine g_no (b := true) hE rfl rfl rfl ?_; clear hE a; intro a hE
        refine s_pickt hE rfl rfl rfl ?_; clear hE a; intro a hE
        refine s_assign hE rfl rfl ?_; clear hE a; intro a hE
        refine q_nil ?_
        replace hE : Env a 166 [(3, _), (4, _), (5, _), (6, _), (7, _), (8, _), (9, _), (11, _), (12, _), (13, _), (15, _), (16, _), (17, _), (18, _), (19, _), (20, _), (21, _), (22, _), (30, _), (62, _), (64, _), (75, _), (100, _), (103, _), (121, _)] := hE.sel [3, 4, 5, 6, 7, 8, 9, 11, 12, 13, 15, 16, 17, 18, 19, 20, 21, 22, 30, 62, 64, 75, 100, 103, 121] rfl
        refine q_block_n ?_
        refine hK31 _ _ ?_
        refine wp_plain [true, true, true] rfl rfl ?_
        refine s_move hE rfl rfl ?_; clear hE a; intro a hE
        refine s_bin hE rfl rfl (show Bin _ _ _ _ _ (.int .i64 ((i2 + 1 : Nat) : Int)) from bin_add (by rw [wrap_i64 (by omega) (by omega)]; omega)) rfl ?_; clear hE a; intro a hE
        refine s_assign hE rfl rfl ?_; clear hE a; intro a hE
        refine q_nil ?_
        replace hE : Env a 166 [(3, _), (4, _), (5, _), (6, _), (7, _), (8, _), (9, _), (11, _), (12, _), (13, _), (15, _), (16, _), (17, _), (18, _), (19, _), (20, _), (21, _), (22, _), (30, _), (62, _), (64, _), (75, _), (100, _), (103, _), (121, _)] := hE.sel [3, 4, 5, 6, 7, 8, 9, 11, 12, 13, 15, 16, 17, 18, 19, 20, 21, 22, 30, 62, 64, 75, 100, 103, 121] rfl
        replace hE := hE.cast 21 rfl (show _ = Value.bool (decide ((i1 + 1) ∈ (pathZ ((h : Nat) : Int) ((q : Nat) : Int)).take (i2 + 1))) from (congrArg Value.bool (on_yes hb125)))
        replace hE := hE.cast 22 rfl (show _ = Value.int .i64 (((i2 + 1) : Nat) : Int) from (congrArg _ (by omega)))
        replace hM : Mem _ _ w20 [_, _, _, _, _, _, _, _, _, _, _, _, _, _, _, _, _] := hM.pick [0, 1, 2, 3, 4, 5, 6, 7, 8, 9, 10, 11, 12, 13, 14, 15, 16] rfl
        exact ⟨i2 + 1, ⟨by omega, hE.sel [3, 4, 5, 6, 7, 8, 9, 11, 12, 13, 15, 16, 17, 18, 19, 20, 21, 22, 30, 62, 64, 75, 100, 103] rfl, hM⟩, by omega⟩
      · replace hE := hE'; clear hE'
        replace hb125 := of_decide_eq_false hb125
        refine g_yes hE rfl rfl ?_
        refine s_move hE rfl rfl ?_; clear hE a; intro a hE
        refine g_yes hE rfl rfl ?_
        refine s_move hE rfl rfl ?_; clear hE a; intro a hE
        refine g_yes hE rfl rfl ?_
        obtain ⟨cx128, hx128⟩ := own_rd (hM.get 2 rfl)
        refine s_indexRd (j := i2) hE rfl hx128 rfl slt35 (by first | rfl | omega) (by first | (rw [path_len hh hq]; omega) | omega) rfl ?_; clear hE a; intro a p128 hE hc128 hp128
        have hlj128 : i2 < (pathZ ((h : Nat) : Int) ((q : Nat) : Int)).length := (by first | (rw [path_len hh hq]; omega) | omega)
        have hok128 := pathZ_ok _ (getD_mem (d := 0) hlj128)
        rw [flat_elem (d := 0) (fun x hx => (show (intC _).length = 1 from rfl)) hlj128] at hc128
        refine g_yes hE rfl rfl ?_
        replace hc128 : (cellsAt _ [.int .i64 ((((pathZ ((h : Nat) : Int) ((q : Nat) : Int)).getD i2 0) : Nat) : Int)]).holds _ := hc128
        refine s_loadAt1 hE rfl hc128 one3 (by intro X h; cases h) rfl ?_; clear hE a; intro a hE
        refine g_yes hE rfl rfl ?_
        refine s_move hE rfl rfl ?_; clear hE a; intro a hE
        refine g_yes hE rfl rfl ?_
        refine s_bin hE rfl rfl bin_eql rfl ?_; clear hE a; intro a hE
        refine s_pickf hE rfl rfl rfl ?_; clear hE a; intro a hE
        refine s_assign hE rfl rfl ?_; clear hE a; intro a hE
        refine q_nil ?_
        replace hE : Env a 166 [(3, _), (4, _), (5, _), (6, _), (7, _), (8, _), (9, _), (11, _), (12, _), (13, _), (15, _), (16, _), (17, _), (18, _), (19, _), (20, _), (21, _), (22, _), (30, _), (62, _), (64, _), (75, _), (100, _), (103, _), (121, _)] := hE.sel [3, 4, 5, 6, 7, 8, 9, 11, 12, 13, 15, 16, 17, 18, 19, 20, 21, 22, 30, 62, 64, 75, 100, 103, 121] rfl
        refine q_block_n ?_
        refine hK31 _ _ ?_
        refine wp_plain [true, true, true] rfl rfl ?_
        refine s_move hE rfl rfl ?_; clear hE a; intro a hE
        refine s_bin hE rfl rfl (show Bin _ _ _ _ _ (.int .i64 ((i2 + 1 : Nat) : Int)) from bin_add (by rw [wrap_i64 (by omega) (by omega)]; omega)) rfl ?_; clear hE a; intro a hE
        refine s_assign hE rfl rfl ?_; clear hE a; intro a hE
        refine q_nil ?_
        replace hE : Env a 166 [(3, _), (4, _), (5, _), (6, _), (7, _), (8, _), (9, _), (11, _), (12, _), (13, _), (15, _), (16, _), (17, _), (18, _), (19, _), (20, _), (21, _), (22, _), (30, _), (62, _), (64, _), (75, _), (100, _), (103, _), (121, _)] := hE.sel [3, 4, 5, 6, 7, 8, 9, 11, 12, 13, 15, 16, 17, 18, 19, 20, 21, 22, 30, 62, 64, 75, 100, 103, 121] rfl
        replace hE := hE.cast 21 rfl (show _ = Value.bool (decide ((i1 + 1) ∈ (pathZ ((h : Nat) : Int) ((q : Nat) : Int)).take (i2 + 1))) from (congrArg Value.bool (on_no (by omega) hb125)))
        replace hE := hE.cast 22 rfl (show _ = Value.int .i64 (((i2 + 1) : Nat) : Int) from (congrArg _ (by omega)))
        replace hM : Mem _ _ w20 [_, _, _, _, _, _, _, _, _, _, _, _, _, _, _, _, _] := hM.pick [0, 1, 2, 3, 4, 5, 6, 7, 8, 9, 10, 11, 12, 13, 14, 15, 16] rfl
        exact ⟨i2 + 1, ⟨by omega, hE.sel [3, 4, 5, 6, 7, 8, 9, 11, 12, 13, 15, 16, 17, 18, 19, 20, 21, 22, 30, 62, 64, 75, 100, 103] rfl, hM⟩, by omega⟩
    · replace hE := hE'; clear hE'
      replace hb121 := of_decide_eq_false hb121
      replace hb121 : ¬ (i2 < ((pathZ ((h : Nat) : Int) ((q : Nat) : Int)).length)) := by omega
      have hon : (pathZ ((h : Nat) : Int) ((q : Nat) : Int)).take i2 = pathZ ((h : Nat) : Int) ((q : Nat) : Int) := List.take_of_length_le (by omega)
      rw [hon] at hE
      refine wp_cond_false (hE.eval rfl) ?_
      refine wp_exit ?_
      refine q_then_e ?_
      refine q_then_e ?_
      refine q_block_x ?_
      refine hK27 _ _ ?_
      refine wp_seq_k (fun K31 hK31 => ?_)
      refine wp_drawnM hM (by kernel_rfl) (fun _ => False) [(0, true), (1, true), (2, true), (3, true), (4, true), (5, true), (6, true), (7, true), (8, true), (9, true), (10, true), (11, true), (12, true), (13, true), (14, true), (15, true), (16, true), (17, true), (18, true), (19, true), (20, true), (21, true), (22, true), (23, true), (24, true), (25, true), (26, true), (27, true), (28, true), (29, true), (30, true), (31, true)] [] (by kernel_rfl) rfl ?_
      intro w21 hM' hww21; clear hM; have hM := hM'; clear hM'
      refine s_move hE rfl rfl ?_; clear hE a; intro a hE
      refine s_bin hE rfl rfl bin_neq rfl ?_; clear hE a; intro a hE
      refine s_move hE rfl rfl ?_; clear hE a; intro a hE
      replace hE := hE.cast 135 rfl (show _ = Value.bool false from (congrArg Value.bool (by rw [eZ_in (by omega)]; rfl)))
      refine g_yes hE rfl rfl ?_
      refine s_move hE rfl rfl ?_; clear hE a; intro a hE
      refine g_yes hE rfl rfl ?_
      refine s_bin hE rfl rfl bin_neq rfl ?_; clear hE a; intro a hE
      refine s_pickf hE rfl rfl rfl ?_; clear hE a; intro a hE
      refine s_move hE rfl rfl ?_; clear hE a; intro a hE
      replace hE := hE.cast 139 rfl (show _ = Value.bool false from (congrArg Value.bool (by rw [eZ_in (by omega)]; rfl)))
      refine g_yes hE rfl rfl ?_
      refine s_move hE rfl rfl ?_; clear hE a; intro a hE
      refine g_yes hE rfl rfl ?_
      refine s_not hE rfl rfl ?_; clear hE a; intro a hE
      refine g_yes hE rfl rfl ?_
      refine s_move hE rfl rfl ?_; clear hE a; intro a hE
      refine hE.split 142 rfl (fun hb142 hE' => ?_) (fun hb142 hE' => ?_)
      · replace hE := hE'; clear hE'
        replace hb142 := of_decide_eq_false (not_true hb142)
        have hoff : ¬ (i1 + 1) ∈ pathZ ((h : Nat) : Int) ((q : Nat) : Int) := hb142
        refine g_yes hE rfl rfl ?_
        refine s_loadN hE rfl (hM.get 1 rfl) row52 rfl (by intro X h; cases h; simp) rfl ?_; clear hE a; intro a hE
        refine g_yes hE rfl rfl ?_
        refine s_loadN hE rfl (hM.get 0 rfl) row52 rfl (by intro X h; cases h; simp) rfl ?_; clear hE a; intro a hE
        refine g_yes hE rfl rfl ?_
        refine s_bin hE rfl rfl (eqa52 (nodeZ_len (OkTs.all (OkTs.pad (ok_take ho_ls)))) (nodeZ_len (OkTs.all (lvZ_ok (OkTs.pad (ok_take ho_ls)) hl_tg)))).2 rfl ?_; clear hE a; intro a hE
        refine g_yes hE rfl rfl ?_
        refine s_pickt hE rfl rfl rfl ?_; clear hE a; intro a hE
        refine s_pickf hE rfl rfl rfl ?_; clear hE a; intro a hE
        refine s_move hE rfl rfl ?_; clear hE a; intro a hE
        replace hE := hE.cast 148 rfl (show _ = Value.bool false from (congrArg Value.bool (by rw [decide_eq_true (apart_node (k := k) (tg := tg) hh (padL_length (by rw [hll]; exact hm)) hq (by omega) (by omega) hoff)]; rfl)))
        refine g_yes hE rfl rfl ?_
        refine s_move hE rfl rfl ?_; clear hE a; intro a hE
        refine g_yes hE rfl rfl ?_
        refine s_move hE rfl rfl ?_; clear hE a; intro a hE
        refine g_yes hE rfl rfl ?_
        obtain ⟨cx151, hx151⟩ := own_rd (hM.get 2 rfl)
        refine s_indexRd (j := 0) hE rfl hx151 rfl slt35 (by first | rfl | omega) (by first | (rw [path_len hh hq]; omega) | omega) rfl ?_; clear hE a; intro a p151 hE hc151 hp151
        have hlj151 : 0 < (pathZ ((h : Nat) : Int) ((q : Nat) : Int)).length := (by first | (rw [path_len hh hq]; omega) | omega)
        have hok151 := pathZ_ok _ (getD_mem (d := 0) hlj151)
        rw [flat_elem (d := 0) (fun x hx => (show (intC _).length = 1 from rfl)) hlj151] at hc151
        refine g_yes hE rfl rfl ?_
        replace hc151 : (cellsAt _ [.int .i64 ((((pathZ ((h : Nat) : Int) ((q : Nat) : Int)).getD 0 0) : Nat) : Int)]).holds _ := hc151
        refine s_loadAt1 hE rfl hc151 one3 (by intro X h; cases h; simp) rfl ?_; clear hE a; intro a hE
        refine g_yes hE rfl rfl ?_
        refine s_bin hE rfl rfl bin_eql rfl ?_; clear hE a; intro a hE
        refine g_yes hE rfl rfl ?_
        refine s_move hE rfl rfl ?_; clear hE a; intro a hE
        refine hE.split 154 rfl (fun hb154 hE' => ?_) (fun hb154 hE' => ?_)
        · replace hE := hE'; clear hE'
          replace hb154 := of_decide_eq_true hb154
          replace hb154 : (i1 + 1) = ((pathZ ((h : Nat) : Int) ((q : Nat) : Int)).getD 0 0) := by omega
          have hlow : (i1 + 1) = (pathZ ((h : Nat) : Int) ((q : Nat) : Int)).getD 0 0 := by omega
          refine g_yes hE rfl rfl ?_
          refine s_loadN hE rfl (hM.get 1 rfl) row52 rfl (by intro X h; cases h; simp) rfl ?_; clear hE a; intro a hE
          refine g_yes hE rfl rfl ?_
          refine s_loadN hE rfl (hM.get 0 rfl) row52 rfl (by intro X h; cases h; simp) rfl ?_; clear hE a; intro a hE
          refine g_yes hE rfl rfl ?_
          refine s_bin hE rfl rfl (eqa52 (nodeZ_len (OkTs.all (OkTs.pad (ok_take ho_ls)))) (nodeZ_len (OkTs.all (lvZ_ok (OkTs.pad (ok_take ho_ls)) hl_tg)))).1 rfl ?_; clear hE a; intro a hE
          refine g_yes hE rfl rfl ?_
          refine s_loadN hE rfl (hM.get 5 rfl) row34 rfl (by intro X h; cases h; simp) rfl ?_; clear hE a; intro a hE
          refine g_yes hE rfl rfl ?_
          refine s_fieldAddr hE rfl fo46_1 rfl ?_; clear hE a; intro a hE
          refine g_yes hE rfl rfl ?_
          refine s_loadN hE rfl (hM.get 11 rfl) row34 rfl (by intro X h; cases h; simp) rfl ?_; clear hE a; intro a hE
          refine g_yes hE rfl rfl ?_
          refine s_bin hE rfl rfl (eqa34 (tagZ_len (OkTs.all (OkTs.pad (ok_take ho_ls)))) hl_tg).1 rfl ?_; clear hE a; intro a hE
          refine g_yes hE rfl rfl ?_
          refine s_bin hE rfl rfl (bins_bool Tryd.underlying4).2 rfl ?_; clear hE a; intro a hE
          refine g_yes hE rfl rfl ?_
          refine s_pickt hE rfl rfl rfl ?_; clear hE a; intro a hE
          refine s_pickf hE rfl rfl rfl ?_; clear hE a; intro a hE
          refine q_nil ?_
          replace hE : Env a 166 [(3, _), (4, _), (5, _), (6, _), (7, _), (8, _), (9, _), (11, _), (12, _), (13, _), (15, _), (16, _), (17, _), (18, _), (19, _), (20, _), (21, _), (22, _), (30, _), (62, _), (64, _), (75, _), (100, _), (103, _), (121, _), (164, _)] := hE.sel [3, 4, 5, 6, 7, 8, 9, 11, 12, 13, 15, 16, 17, 18, 19, 20, 21, 22, 30, 62, 64, 75, 100, 103, 121, 164] rfl
          refine hK31 _ _ ?_
          replace hE := hE.cast 164 rfl (show _ = Value.bool false from (congrArg Value.bool (neq_same (apart_low (k := k) (OkTs.pad hoL) hl_tg hh (padL_length (by rw [hll]; exact hm)) hq hlow))))
          refine wp_cond_false (hE.eval rfl) ?_
          refine wp_skip ?_
          refine q_block_n ?_
          refine hK23 _ _ ?_
          refine wp_plain [true, true, true] rfl rfl ?_
          refine s_move hE rfl rfl ?_; clear hE a; intro a hE
          refine s_bin hE rfl rfl (show Bin _ _ _ _ _ (.int .i64 (((i1 + 1) + 1 : Nat) : Int)) from bin_add (by rw [wrap_i64 (by omega) (by omega)]; omega)) rfl ?_; clear hE a; intro a hE
          refine s_assign hE rfl rfl ?_; clear hE a; intro a hE
          refine q_nil ?_
          replace hE : Env a 166 [(3, _), (4, _), (5, _), (6, _), (7, _), (8, _), (9, _), (11, _), (12, _), (13, _), (15, _), (16, _), (17, _), (18, _), (19, _), (20, _), (21, _), (22, _), (30, _), (62, _), (64, _), (75, _), (100, _), (103, _), (121, _), (164, _)] := hE.sel [3, 4, 5, 6, 7, 8, 9, 11, 12, 13, 15, 16, 17, 18, 19, 20, 21, 22, 30, 62, 64, 75, 100, 103, 121, 164] rfl
          replace hE := hE.cast 16 rfl (show _ = Value.int .i64 (((i1 + 1) + 1 : Nat) : Int) from (congrArg _ (by omega)))
          replace hM : Mem _ _ w21 [_, _, _, _, _, _, _, _, _, _, _, _, _, _, _] := hM.pick [2, 3, 4, 5, 6, 7, 8, 9, 10, 11, 12, 13, 14, 15, 16] rfl
          exact ⟨i1 + 1, ⟨by omega, hE.sel [3, 4, 5, 6, 7, 8, 9, 11, 12, 13, 15, 16, 30, 62, 64, 75, 100] rfl, hM⟩, by omega⟩
        · replace hE := hE'; clear hE'
          replace hb154 := of_decide_eq_false hb154
          replace hb154 : ¬ ((i1 + 1) = ((pathZ ((h : Nat) : Int) ((q : Nat) : Int)).getD 0 0)) := by omega
          refine g_no (b := false) hE rfl rfl rfl ?_; clear hE a; intro a hE
          refine g_no (b := false) hE rfl rfl rfl ?_; clear hE a; intro a hE
          refine g_no (b := false) hE rfl rfl rfl ?_; clear hE a; intro a hE
          refine g_no (b := false) hE rfl rfl rfl ?_; clear hE a; intro a hE
          refine g_no (b := false) hE rfl rfl rfl ?_; clear hE a; intro a hE
          refine g_no (b := false) hE rfl rfl rfl ?_; clear hE a; intro a hE
          refine g_no (b := false) hE rfl rfl rfl ?_; clear hE a; intro a hE
          refine g_no (b := false) hE rfl rfl rfl ?_; clear hE a; intro a hE
          refine g_yes hE rfl rfl ?_
          refine s_pickf hE rfl rfl rfl ?_; clear hE a; intro a hE
          refine s_pickf hE rfl rfl rfl ?_; clear hE a; intro a hE
          refine q_nil ?_
          replace hE : Env a 166 [(3, _), (4, _), (5, _), (6, _), (7, _), (8, _), (9, _), (11, _), (12, _), (13, _), (15, _), (16, _), (17, _), (18, _), (19, _), (20, _), (21, _), (22, _), (30, _), (62, _), (64, _), (75, _), (100, _), (103, _), (121, _), (164, _)] := hE.sel [3, 4, 5, 6, 7, 8, 9, 11, 12, 13, 15, 16, 17, 18, 19, 20, 21, 22, 30, 62, 64, 75, 100, 103, 121, 164] rfl
          refine hK31 _ _ ?_
          refine wp_cond_false (hE.eval rfl) ?_
          refine wp_skip ?_
          refine q_block_n ?_
          refine hK23 _ _ ?_
          refine wp_plain [true, true, true] rfl rfl ?_
          refine s_move hE rfl rfl ?_; clear hE a; intro a hE
          refine s_bin hE rfl rfl (show Bin _ _ _ _ _ (.int .i64 (((i1 + 1) + 1 : Nat) : Int)) from bin_add (by rw [wrap_i64 (by omega) (by omega)]; omega)) rfl ?_; clear hE a; intro a hE
          refine s_assign hE rfl rfl ?_; clear hE a; intro a hE
          refine q_nil ?_
          replace hE : Env a 166 [(3, _), (4, _), (5, _), (6, _), (7, _), (8, _), (9, _), (11, _), (12, _), (13, _), (15, _), (16, _), (17, _), (18, _), (19, _), (20, _), (21, _), (22, _), (30, _), (62, _), (64, _), (75, _), (100, _), (103, _), (121, _), (164, _)] := hE.sel [3, 4, 5, 6, 7, 8, 9, 11, 12, 13, 15, 16, 17, 18, 19, 20, 21, 22, 30, 62, 64, 75, 100, 103, 121, 164] rfl
          replace hE := hE.cast 16 rfl (show _ = Value.int .i64 (((i1 + 1) + 1 : Nat) : Int) from (congrArg _ (by omega)))
          replace hM : Mem _ _ w21 [_, _, _, _, _, _, _, _, _, _, _, _, _, _, _] := hM.pick [2, 3, 4, 5, 6, 7, 8, 9, 10, 11, 12, 13, 14, 15, 16] rfl
          exact ⟨i1 + 1, ⟨by omega, hE.sel [3, 4, 5, 6, 7, 8, 9, 11, 12, 13, 15, 16, 30, 62, 64, 75, 100] rfl, hM⟩, by omega⟩
      · replace hE := hE'; clear hE'
        replace hb142 := of_decide_eq_true (not_false' hb142)
        refine g_no (b := false) hE rfl rfl rfl ?_; clear hE a; intro a hE
        refine g_no (b := false) hE rfl rfl rfl ?_; clear hE a; intro a hE
        refine g_no (b := false) hE rfl rfl rfl ?_; clear hE a; intro a hE
        refine g_yes hE rfl rfl ?_
        refine s_pickf hE rfl rfl rfl ?_; clear hE a; intro a hE
        refine s_pickf hE rfl rfl rfl ?_; clear hE a; intro a hE
        refine s_move hE rfl rfl ?_; clear hE a; intro a hE
        refine g_yes hE rfl rfl ?_
        refine s_move hE rfl rfl ?_; clear hE a; intro a hE
        refine g_yes hE rfl rfl ?_
        refine s_move hE rfl rfl ?_; clear hE a; intro a hE
        refine g_yes hE rfl rfl ?_
        obtain ⟨cx151, hx151⟩ := own_rd (hM.get 2 rfl)
        refine s_indexRd (j := 0) hE rfl hx151 rfl slt35 (by first | rfl | omega) (by first | (rw [path_len hh hq]; omega) | omega) rfl ?_; clear hE a; intro a p151 hE hc151 hp151
        have hlj151 : 0 < (pathZ ((h : Nat) : Int) ((q : Nat) : Int)).length := (by first | (rw [path_len hh hq]; omega) | omega)
        have hok151 := pathZ_ok _ (getD_mem (d := 0) hlj151)
        rw [flat_elem (d := 0) (fun x hx => (show (intC _).length = 1 from rfl)) hlj151] at hc151
        refine g_yes hE rfl rfl ?_
        replace hc151 : (cellsAt _ [.int .i64 ((((pathZ ((h : Nat) : Int) ((q : Nat) : Int)).getD 0 0) : Nat) : Int)]).holds _ := hc151
        refine s_loadAt1 hE rfl hc151 one3 (by intro X h; cases h; simp) rfl ?_; clear hE a; intro a hE
        refine g_yes hE rfl rfl ?_
        refine s_bin hE rfl rfl bin_eql rfl ?_; clear hE a; intro a hE
        refine g_yes hE rfl rfl ?_
        refine s_move hE rfl rfl ?_; clear hE a; intro a hE
        refine hE.split 154 rfl (fun hb154 hE' => ?_) (fun hb154 hE' => ?_)
        · replace hE := hE'; clear hE'
          replace hb154 := of_decide_eq_true hb154
          replace hb154 : (i1 + 1) = ((pathZ ((h : Nat) : Int) ((q : Nat) : Int)).getD 0 0) := by omega
          have hlow : (i1 + 1) = (pathZ ((h : Nat) : Int) ((q : Nat) : Int)).getD 0 0 := by omega
          refine g_yes hE rfl rfl ?_
          refine s_loadN hE rfl (hM.get 1 rfl) row52 rfl (by intro X h; cases h; simp) rfl ?_; clear hE a; intro a hE
          refine g_yes hE rfl rfl ?_
          refine s_loadN hE rfl (hM.get 0 rfl) row52 rfl (by intro X h; cases h; simp) rfl ?_; clear hE a; intro a hE
          refine g_yes hE rfl rfl ?_
          refine s_bin hE rfl rfl (eqa52 (nodeZ_len (OkTs.all (OkTs.pad (ok_take ho_ls)))) (nodeZ_len (OkTs.all (lvZ_ok (OkTs.pad (ok_take ho_ls)) hl_tg)))).1 rfl ?_; clear hE a; intro a hE
          refine g_yes hE rfl rfl ?_
          refine s_loadN hE rfl (hM.get 5 rfl) row34 rfl (by intro X h; cases h; simp) rfl ?_; clear hE a; intro a hE
          refine g_yes hE rfl rfl ?_
          refine s_fieldAddr hE rfl fo46_1 rfl ?_; clear hE a; intro a hE
          refine g_yes hE rfl rfl ?_
          refine s_loadN hE rfl (hM.get 11 rfl) row34 rfl (by intro X h; cases h; simp) rfl ?_; clear hE a; intro a hE
          refine g_yes hE rfl rfl ?_
          refine s_bin hE rfl rfl (eqa34 (tagZ_len (OkTs.all (OkTs.pad (ok_take ho_ls)))) hl_tg).1 rfl ?_; clear hE a; intro a hE
          refine g_yes hE rfl rfl ?_
          refine s_bin hE rfl rfl (bins_bool Tryd.underlying4).2 rfl ?_; clear hE a; intro a hE
          refine g_yes hE rfl rfl ?_
          refine s_pickt hE rfl rfl rfl ?_; clear hE a; intro a hE
          refine s_pickf hE rfl rfl rfl ?_; clear hE a; intro a hE
          refine q_nil ?_
          replace hE : Env a 166 [(3, _), (4, _), (5, _), (6, _), (7, _), (8, _), (9, _), (11, _), (12, _), (13, _), (15, _), (16, _), (17, _), (18, _), (19, _), (20, _), (21, _), (22, _), (30, _), (62, _), (64, _), (75, _), (100, _), (103, _), (121, _), (164, _)] := hE.sel [3, 4, 5, 6, 7, 8, 9, 11, 12, 13, 15, 16, 17, 18, 19, 20, 21, 22, 30, 62, 64, 75, 100, 103, 121, 164] rfl
          refine hK31 _ _ ?_
          replace hE := hE.cast 164 rfl (show _ = Value.bool false from (congrArg Value.bool (neq_same (apart_low (k := k) (OkTs.pad hoL) hl_tg hh (padL_length (by rw [hll]; exact hm)) hq hlow))))
          refine wp_cond_false (hE.eval rfl) ?_
          refine wp_skip ?_
          refine q_block_n ?_
          refine hK23 _ _ ?_
          refine wp_plain [true, true, true] rfl rfl ?_
          refine s_move hE rfl rfl ?_; clear hE a; intro a hE
          refine s_bin hE rfl rfl (show Bin _ _ _ _ _ (.int .i64 (((i1 + 1) + 1 : Nat) : Int)) from bin_add (by rw [wrap_i64 (by omega) (by omega)]; omega)) rfl ?_; clear hE a; intro a hE
          refine s_assign hE rfl rfl ?_; clear hE a; intro a hE
          refine q_nil ?_
          replace hE : Env a 166 [(3, _), (4, _), (5, _), (6, _), (7, _), (8, _), (9, _), (11, _), (12, _), (13, _), (15, _), (16, _), (17, _), (18, _), (19, _), (20, _), (21, _), (22, _), (30, _), (62, _), (64, _), (75, _), (100, _), (103, _), (121, _), (164, _)] := hE.sel [3, 4, 5, 6, 7, 8, 9, 11, 12, 13, 15, 16, 17, 18, 19, 20, 21, 22, 30, 62, 64, 75, 100, 103, 121, 164] rfl
          replace hE := hE.cast 16 rfl (show _ = Value.int .i64 (((i1 + 1) + 1 : Nat) : Int) from (congrArg _ (by omega)))
          replace hM : Mem _ _ w21 [_, _, _, _, _, _, _, _, _, _, _, _, _, _, _] := hM.pick [2, 3, 4, 5, 6, 7, 8, 9, 10, 11, 12, 13, 14, 15, 16] rfl
          exact ⟨i1 + 1, ⟨by omega, hE.sel [3, 4, 5, 6, 7, 8, 9, 11, 12, 13, 15, 16, 30, 62, 64, 75, 100] rfl, hM⟩, by omega⟩
        · replace hE := hE'; clear hE'
          replace hb154 := of_decide_eq_false hb154
          replace hb154 : ¬ ((i1 + 1) = ((pathZ ((h : Nat) : Int) ((q : Nat) : Int)).getD 0 0)) := by omega
          refine g_no (b := false) hE rfl rfl rfl ?_; clear hE a; intro a hE
          refine g_no (b := false) hE rfl rfl rfl ?_; clear hE a; intro a hE
          refine g_no (b := false) hE rfl rfl rfl ?_; clear hE a; intro a hE
          refine g_no (b := false) hE rfl rfl rfl ?_; clear hE a; intro a hE
          refine g_no (b := false) hE rfl rfl rfl ?_; clear hE a; intro a hE
          refine g_no (b := false) hE rfl rfl rfl ?_; clear hE a; intro a hE
          refine g_no (b := false) hE rfl rfl rfl ?_; clear hE a; intro a hE
          refine g_no (b := false) hE rfl rfl rfl ?_; clear hE a; intro a hE
          refine g_yes hE rfl rfl ?_
          refine s_pickf hE rfl rfl rfl ?_; clear hE a; intro a hE
          refine s_pickf hE rfl rfl rfl ?_; clear hE a; intro a hE
          refine q_nil ?_
          replace hE : Env a 166 [(3, _), (4, _), (5, _), (6, _), (7, _), (8, _), (9, _), (11, _), (12, _), (13, _), (15, _), (16, _), (17, _), (18, _), (19, _), (20, _), (21, _), (22, _), (30, _), (62, _), (64, _), (75, _), (100, _), (103, _), (121, _), (164, _)] := hE.sel [3, 4, 5, 6, 7, 8, 9, 11, 12, 13, 15, 16, 17, 18, 19, 20, 21, 22, 30, 62, 64, 75, 100, 103, 121, 164] rfl
          refine hK31 _ _ ?_
          refine wp_cond_false (hE.eval rfl) ?_
          refine wp_skip ?_
          refine q_block_n ?_
          refine hK23 _ _ ?_
          refine wp_plain [true, true, true] rfl rfl ?_
          refine s_move hE rfl rfl ?_; clear hE a; intro a hE
          refine s_bin hE rfl rfl (show Bin _ _ _ _ _ (.int .i64 (((i1 + 1) + 1 : Nat) : Int)) from bin_add (by rw [wrap_i64 (by omega) (by omega)]; omega)) rfl ?_; clear hE a; intro a hE
          refine s_assign hE rfl rfl ?_; clear hE a; intro a hE
          refine q_nil ?_
          replace hE : Env a 166 [(3, _), (4, _), (5, _), (6, _), (7, _), (8, _), (9, _), (11, _), (12, _), (13, _), (15, _), (16, _), (17, _), (18, _), (19, _), (20, _), (21, _), (22, _), (30, _), (62, _), (64, _), (75, _), (100, _), (103, _), (121, _), (164, _)] := hE.sel [3, 4, 5, 6, 7, 8, 9, 11, 12, 13, 15, 16, 17, 18, 19, 20, 21, 22, 30, 62, 64, 75, 100, 103, 121, 164] rfl
          replace hE := hE.cast 16 rfl (show _ = Value.int .i64 (((i1 + 1) + 1 : Nat) : Int) from (congrArg _ (by omega)))
          replace hM : Mem _ _ w21 [_, _, _, _, _, _, _, _, _, _, _, _, _, _, _] := hM.pick [2, 3, 4, 5, 6, 7, 8, 9, 10, 11, 12, 13, 14, 15, 16] rfl
          exact ⟨i1 + 1, ⟨by omega, hE.sel [3, 4, 5, 6, 7, 8, 9, 11, 12, 13, 15, 16, 30, 62, 64, 75, 100] rfl, hM⟩, by omega⟩
  · replace hE := hE'; clear hE'
    replace hb103 := of_decide_eq_false hb103
    replace hb103 : ¬ ((i1 + 1) < (2 ^ h)) := by omega
    refine wp_cond_false (hE.eval rfl) ?_
    refine wp_exit ?_
    refine q_then_e ?_
    refine q_then_e ?_
    refine q_block_x ?_
    refine hK19 _ _ ?_
    refine wp_seq_k (fun K23 hK23 => ?_)
    refine wp_plain [false, true] rfl rfl ?_
    refine s_call hE rfl Tryd.call9 (works_c  _ (hM.get 14 rfl)) rfl ?_
    rintro e w14 ⟨rfl, hN⟩
    refine ⟨_, rfl, trivial, ?_⟩; clear hE a; intro a hE
    replace hM : Mem _ _ w14 [_, _, _, _, _, _, _, _, _, _, _, _, _, _, _] := hM.call0 hN trivial; clear hN
    refine s_assign hE rfl rfl ?_; clear hE a; intro a hE
    refine q_nil ?_
    replace hE : Env a 166 [(3, _), (4, _), (5, _), (6, _), (7, _), (8, _), (9, _), (11, _), (12, _), (13, _), (15, _), (16, _), (30, _), (62, _), (64, _), (75, _), (100, _), (103, _)] := hE.sel [3, 4, 5, 6, 7, 8, 9, 11, 12, 13, 15, 16, 30, 62, 64, 75, 100, 103] rfl
    refine hK23 _ _ ?_
    refine wp_ret ?_
    refine f_ret1 hE rfl rfl ?_
    exact ⟨(by first | rfl | (simp; done)), hM.pick [] rfl⟩
theorem treeApart_c (k : List UInt8) (y : Int) (v : Value) (ls : List (List UInt8)) (c : Nat) (z : Int) (tg : List UInt8) (vp : Value) (ps : List (List UInt8)) (cp : Nat) (tp : List UInt8) (w : World) (hG : (glb 0).holds w) (hl_k : k.length = 32) (hr_ls : (rd v 32 ls.length c (ls.flatMap bv)).holds w) (ho_ls : ∀ x, x ∈ ls → x.length = 32) (hl_tg : tg.length = 32) (hr_ps : (rd vp 64 ps.length cp (ps.flatMap bv)).holds w) (ho_ps : ∀ x, x ∈ ps → x.length = 64) (hl_tp : tp.length = 32) : Calls Tryd.prog 8 #[.agg (bv k).toArray, .agg ([[.int .i64 y], [v]] : List (List Value)).flatten.toArray, .agg ([[.int .i64 z], bv tg, [vp], bv tp] : List (List Value)).flatten.toArray] w fun e w' => e = .returned (.bool true) ∧ Mem w [] w' [] := by
  by_cases h1 : 5 < y ∧ y ≤ 12
  · exact treeApart_big k y v ls c z tg vp ps cp tp w hG hl_k hr_ls ho_ls hl_tg hr_ps ho_ps hl_tp h1
  · by_cases h2 : 1 ≤ y ∧ y ≤ 12
    · obtain ⟨h, rfl⟩ : ∃ h : Nat, y = (h : Int) := ⟨y.toNat, by omega⟩
      by_cases h3 : min ls.length 32 ≤ 2 ^ h
      · have hpw := two_pow_le (h := h) (by omega)
        rcases tmod_case z (n := 2 ^ h) (by omega) with ⟨q, hq, e⟩ | ⟨q, hq, e, e0⟩
        · exact treeApart_in (q := q) k h v ls c z tg vp ps cp tp w hG hl_k hr_ls ho_ls hl_tg hr_ps ho_ps hl_tp (by omega) h3 hq e
        · exact treeApart_neg (q := q) k h v ls c z tg vp ps cp tp w hG hl_k hr_ls ho_ls hl_tg hr_ps ho_ps hl_tp (by omega) h3 hq e e0
      · exact treeApart_no2 k h v ls c z tg vp ps cp tp w hG hl_k hr_ls ho_ls hl_tg hr_ps ho_ps hl_tp (by omega) h3
    · exact treeApart_no1 k y v ls c z tg vp ps cp tp w hG hl_k hr_ls ho_ls hl_tg hr_ps ho_ps hl_tp h2
set_option maxRecDepth 100000 in
theorem treeApart_lifted (os : Os) (started : os.Started) (H : Type) (enc : TypeId × Value → H) :
    ReturnsInHanded {} Tryd.checked os 8 .any (fun w args => (Rows.treeApartSpec.pre enc Tryd.prog Tryd.f8 [] false w args ∧ laidMetH Tryd.prog Rows.treeApartRow.laid w) ∧ sizedMet enc Tryd.prog Tryd.f8 (OpenSpec.ofChange Rows.treeApartSpec) false w args) (Rows.treeApartSpec.post enc Tryd.prog Tryd.f8 false true false false) := by
  refine law_liftedL (C := Tryd.checked) (fn := Tryd.f8) (l := Rows.treeApartRow.laid) (by kernel_rfl) started (by kernel_rfl) Tryd.func8 rfl (fun ds hl => ?_) rfl Tryd.underlying4 (by kernel_rfl) (of_decide_eq_true (by kernel_rfl)) (by kernel_rfl)
    (ChangeSpec.witness_shaped (enc := enc) (C := Tryd.checked) (os := os) (X := fun w _ => laidMetH Tryd.prog Rows.treeApartRow.laid w) false (World.laidAll Tryd.prog os Rows.treeApartRow.laid) #[.agg (bv (List.replicate 32 0)).toArray, .agg ([Value.int .i64 0] ++ [Value.slice none 0 0]).toArray, .agg ([Value.int .i64 0] ++ bv (List.replicate 32 0) ++ [Value.slice none 0 0] ++ bv (List.replicate 32 0)).toArray] 8 (World.laidAll_os _ _ _) (World.shaped_of_ZipB (by kernel_rfl) (by kernel_rfl)) (by kernel_rfl) (by kernel_rfl) (by kernel_rfl) (by rw [MakeChecks.laidMetH_plain _ _ _ (by kernel_rfl)]; exact laidMet_laidAll _ (by kernel_rfl) (by kernel_rfl))) ?_
  · rw [Tryd.params8] at hl
    match ds, hl with
    | [_, _, _], _ => rfl
  · intro W base args ds ps hval hA hw hL
    have hG := glb_of_laid (P := Tryd.prog) (g := 0) (t := 123) (e := 102) (by kernel_rfl) (by kernel_rfl) Tryd.underlying123 Tryd.underlying102 (by kernel_rfl) (by kernel_rfl) (by kernel_rfl) (show laidMet Tryd.prog (_ :: _) W from hL)
    rw [Tryd.params8] at hA hval hw
    obtain ⟨v0, vs0, d0, ds0, p0, q0, hargs, rfl, rfl, h0, r0⟩ := trodAll_cons hA
    obtain ⟨v1, vs1, d1, ds1, p1, q1, rfl, rfl, rfl, h1, r1⟩ := trodAll_cons r0
    obtain ⟨v2, vs2, d2, ds2, p2, q2, rfl, rfl, rfl, h2, r2⟩ := trodAll_cons r1
    obtain ⟨rfl, rfl, rfl⟩ := trodAll_nil r2
    obtain rfl : args = #[v0, v1, v2] := by cases args; simp_all
    obtain ⟨a0, rfl, ha0⟩ := arg_arr8 Tryd.underlying23 Tryd.underlying5 (by kernel_rfl) (by kernel_rfl) (hval 0 23 v0 rfl rfl) h0 (fun m hm => hw m (by simp only [DataW.weightsEach, List.mem_append]; exact .inl hm))
    obtain ⟨cs1, rfl, hcs1⟩ := okWide_struct Tryd.underlying26 (hval 1 26 v1 rfl rfl)
    obtain ⟨_, _, hc1, ⟨y, rfl, hy1, hy2⟩, ⟨v, ls, c, rfl, hr_ls, ho_ls, hn_ls⟩⟩ := trod_of (dec_f2 (t := 26) (s := 2) (n0 := 1) (n1 := 1) Tryd.underlying26 (by kernel_rfl) (by kernel_rfl) rfl (dec_int Tryd.underlying3) (dec_rowsV (es := 32) (by_ := 32) Tryd.underlying24 (by kernel_rfl) (by kernel_rfl) (by decide) (dec_arr8 (n := 32) Tryd.underlying34 Tryd.underlying5 (by kernel_rfl) (by kernel_rfl)))) h1 (fun m hm => hw m (by simp only [DataW.weightsEach, List.mem_append]; exact .inr (.inl hm)))
    have ecs1 := agg_of hc1
    subst ecs1
    obtain ⟨cs2, rfl, hcs2⟩ := okWide_struct Tryd.underlying46 (hval 2 46 v2 rfl rfl)
    obtain ⟨_, _, _, _, hc2, ⟨z, rfl, hz1, hz2⟩, ⟨tg, rfl, hl_tg⟩, ⟨vp, ps, cp, rfl, hr_ps, ho_ps, hn_ps⟩, ⟨tp, rfl, hl_tp⟩⟩ := trod_of (dec_f4 (t := 46) (s := 66) (n0 := 1) (n1 := 32) (n2 := 1) (n3 := 32) (o2 := 33) (o3 := 34) Tryd.underlying46 (by kernel_rfl) (by kernel_rfl) rfl rfl rfl (dec_int Tryd.underlying3) (dec_arr8 (n := 32) Tryd.underlying34 Tryd.underlying5 (by kernel_rfl) (by kernel_rfl)) (dec_rowsV (es := 64) (by_ := 64) Tryd.underlying44 (by kernel_rfl) (by kernel_rfl) (by decide) (dec_arr8 (n := 64) Tryd.underlying52 Tryd.underlying5 (by kernel_rfl) (by kernel_rfl))) (dec_arr8 (n := 32) Tryd.underlying34 Tryd.underlying5 (by kernel_rfl) (by kernel_rfl))) h2 (fun m hm => hw m (by simp only [DataW.weightsEach, List.mem_append]; exact .inr (.inr (.inl hm))))
    have ecs2 := agg_of hc2
    subst ecs2
    have ef : ∀ (a b : List Value), ([a, b] : List (List Value)).flatten = a ++ b := fun a b => by simp
    have ef3 : ∀ (a b c : List Value), ([a, b, c] : List (List Value)).flatten = a ++ (b ++ c) := fun a b c => by simp
    have ef4 : ∀ (a b c d : List Value), ([a, b, c, d] : List (List Value)).flatten = a ++ (b ++ (c ++ d)) := fun a b c d => by simp
    exact (by have h := treeApart_c a0 y v ls c z tg vp ps cp tp W hG ha0 hr_ls ho_ls hl_tg hr_ps ho_ps hl_tp; rw [ef, ef4] at h; exact h)

/-- The row's statement. -/
theorem treeApart_row : Rows.TreeApartSaid :=
  OpenClaim.holds_of_wide 8 Tryd.f8 rfl rfl rfl rfl rfl rfl rfl ⟨rfl, rfl, rfl, rfl, rfl⟩ rfl rfl rfl rfl rfl (by kernel_rfl) Tryd.func8 (by kernel_rfl)
    (of_decide_eq_true (by kernel_rfl)) (by unfold Func.isWrapper; first | (rw [if_pos (by decide +kernel)]; kernel_rfl) | (rw [if_neg (by decide +kernel)]; exact ⟨rfl, rfl⟩))
    (fun os started H enc _ => treeApart_lifted os started H enc)

/-- The statement: the row, its listed variable tied to the program's text. -/
theorem treeApart_holds : Rows.TreeApartCardSaid :=
  Claim7.holds_tied_plain_at .later [] [.data] true (true, "3e37e367fa882af65b92501024ce61bfddfc4c8207345e6e4fc0786d0584de6e") false
    treeApart_row (fun _ h => by cases h) (by kernel_rfl) (fun _ h => by cases h) treeApart_row_tie rfl ⟨rfl, rfl⟩ (by kernel_rfl) rfl
    (fun f fn hf hfn => by
      obtain rfl : f = 8 := Option.some.inj ((show Tryd.prog.funcNamed "casemate/casematelaw18.TreeApart" = some 8 by kernel_rfl).symm.trans hf) |>.symm
      obtain rfl : fn = Tryd.f8 := (Option.some.inj (Tryd.func8.symm.trans hfn)).symm
      exact ⟨by kernel_rfl, fun j t ht => by
        rw [Tryd.params8] at ht
        have h : t ∈ [23, 26, 46] := by
          rcases j with _ | _ | _ | j
          · simp at ht; simp [ht]
          · simp at ht; simp [ht]
          · simp at ht; simp [ht]
          · simp at ht
        simp only [List.mem_cons, List.not_mem_nil, or_false] at h
        rcases h with rfl | rfl | rfl
        · exact (show Tryd.prog.wantsStandIn 23 = false by kernel_rfl)
        · exact (show Tryd.prog.wantsStandIn 26 = false by kernel_rfl)
        · exact (show Tryd.prog.wantsStandIn 46 = false by kernel_rfl)⟩)
    (by kernel_rfl)
#print axioms treeApart_holds
end Go.Proofs.YtacebdngbalkmaaDoor
