/- TreePlays of casematelaw18 returns true for whatever key, height, leaves and acts; they read behind the call as before. No condition. -/
import Derived.Test.YtacebdngbalkmaaDoorLq
import Derived.Test.YtacebdngbalkmaaDoorTie
import Derived.Test.YtacebdngbalkmaaDoorCards
set_option linter.unusedSimpArgs false
set_option linter.unusedVariables false
namespace Go.Proofs.YtacebdngbalkmaaDoor
open Go Go.Kx
open Go.ChangeShapes Go.WideShapes Go.ChangeAt Go.RowKit
theorem fo26_0 : fieldOff Tryd.prog 26 0 = some 0 := by kernel_rfl
theorem fo26_1 : fieldOff Tryd.prog 26 1 = some 1 := by kernel_rfl
theorem slt27 : slT Tryd.prog 27 = some 34 := by kernel_rfl
theorem row39 : RowT Tryd.prog 39 34 := RowT.of Tryd.underlying39 rfl (by kernel_rfl)
theorem zero39 : Zero Tryd.prog 39 [[.int .i64 0], [.int .i64 0], bv (List.replicate 32 0)] := ⟨.agg ([[.int .i64 0], [.int .i64 0], bv (List.replicate 32 0)] : List (List Value)).flatten.toArray, by kernel_rfl, by kernel_rfl⟩
theorem sz39 : (Tryd.prog.info? 39).map (·.size) = some 34 := by kernel_rfl
theorem fo39_0 : fieldOff Tryd.prog 39 0 = some 0 := by kernel_rfl
theorem fo39_1 : fieldOff Tryd.prog 39 1 = some 1 := by kernel_rfl
theorem fo39_2 : fieldOff Tryd.prog 39 2 = some 2 := by kernel_rfl
set_option maxRecDepth 20000 in
theorem treePlays_big (k : List UInt8) (y : Int) (v : Value) (ls : List (List UInt8)) (c : Nat) (va : Value) (acs : List Wr) (ca : Nat) (w : World) (hG : (glb 0).holds w) (hl_k : k.length = 32) (hr_ls : (rd v 32 ls.length c (ls.flatMap bv)).holds w) (ho_ls : ∀ x, x ∈ ls → x.length = 32) (hr_acs : (rd va 34 acs.length ca (acs.flatMap wcl)).holds w) (ho_acs : ∀ x, x ∈ acs → OkAc x) (hh : 5 < y ∧ y ≤ 12) : Calls Tryd.prog 6 #[.agg (bv k).toArray, .agg ([[.int .i64 y], [v]] : List (List Value)).flatten.toArray, va] w fun e w' => e = .returned (.bool true) ∧ Mem w [] w' [] := by
  have hM : Mem w [] w [rd v 32 ls.length c (ls.flatMap bv), rd va 34 acs.length ca (acs.flatMap wcl), glb 0] := Mem.startR w (fun g hg => by
    simp only [List.mem_cons, List.not_mem_nil, or_false] at hg
    rcases hg with rfl | rfl | rfl
    · exact ⟨hr_ls, rfl⟩
    · exact ⟨hr_acs, rfl⟩
    · exact ⟨hG, rfl⟩)
  refine f_enter 206 Tryd.func6 rfl rfl rfl ?_
  intro a hE
  replace hE : Env a 206 [(0, _), (1, _), (2, _)] := hE
  refine wp_seq_k (fun K1 hK1 => ?_)
  refine wp_plain [false, false, true] rfl rfl ?_
  refine s_box (ss := [bv k]) [32] hE hM rfl (by simp [Value.cells]) (by simp [*]) rfl ?_; clear hE a; intro a b3 w1 hE hM'
  clear hM; have hM := hM'; clear hM'
  refine s_box (ss := [[.int .i64 y], [v]]) [1, 1] hE hM rfl rfl (by simp [*]) rfl ?_; clear hE a; intro a b4 w2 hE hM'
  clear hM; have hM := hM'; clear hM'
  refine s_assign hE rfl rfl ?_; clear hE a; intro a hE
  refine q_nil ?_
  replace hE : Env a 206 [(2, _), (3, _), (4, _), (6, _)] := hE.sel [2, 3, 4, 6] rfl
  refine hK1 _ _ ?_
  refine wp_seq_k (fun K2 hK2 => ?_)
  refine wp_seq_k (fun K3 hK3 => ?_)
  refine wp_plain [true, true, true, true, true, true, true, true] rfl rfl ?_
  refine s_fieldAddr hE rfl fo26_0 rfl ?_; clear hE a; intro a hE
  refine s_load1 hE rfl (hM.get 0 rfl) rfl one3 (by intro X h; cases h) rfl ?_; clear hE a; intro a hE
  refine s_bin hE rfl rfl bin_gtr rfl ?_; clear hE a; intro a hE
  refine s_move hE rfl rfl ?_; clear hE a; intro a hE
  replace hE := hE.cast 34 rfl (show _ = Value.bool true from (congrArg Value.bool (decide_eq_true (by omega))))
  refine g_yes hE rfl rfl ?_
  refine s_fieldAddr hE rfl fo26_0 rfl ?_; clear hE a; intro a hE
  refine g_yes hE rfl rfl ?_
  refine s_load1 hE rfl (hM.get 0 rfl) rfl one3 (by intro X h; cases h) rfl ?_; clear hE a; intro a hE
  refine g_yes hE rfl rfl ?_
  refine s_bin hE rfl rfl bin_leq rfl ?_; clear hE a; intro a hE
  refine s_pickt hE rfl rfl rfl ?_; clear hE a; intro a hE
  refine q_nil ?_
  replace hE : Env a 206 [(2, _), (3, _), (4, _), (6, _), (38, _)] := hE.sel [2, 3, 4, 6, 38] rfl
  refine hK3 _ _ ?_
  replace hE := hE.cast 38 rfl (show _ = Value.bool true from (congrArg Value.bool (decide_eq_true (by omega))))
  refine wp_cond_true (hE.eval rfl) ?_
  refine wp_seq_k (fun K4 hK4 => ?_)
  refine wp_plain [false, true] rfl rfl ?_
  refine s_call hE rfl Tryd.call9 (works_c  _ (hM.get 4 rfl)) rfl ?_
  rintro e w3 ⟨rfl, hN⟩
  refine ⟨_, rfl, trivial, ?_⟩; clear hE a; intro a hE
  replace hM : Mem _ _ w3 [_, _, _, _, _] := hM.call0 hN trivial; clear hN
  refine s_assign hE rfl rfl ?_; clear hE a; intro a hE
  refine q_nil ?_
  replace hE : Env a 206 [(2, _), (3, _), (4, _), (6, _), (38, _)] := hE.sel [2, 3, 4, 6, 38] rfl
  refine hK4 _ _ ?_
  refine wp_ret ?_
  refine q_then_r ?_
  refine f_ret1 hE rfl rfl ?_
  exact ⟨(by first | rfl | (simp; done)), hM.pick [] rfl⟩
set_option maxRecDepth 20000 in
theorem treePlays_no1 (k : List UInt8) (y : Int) (v : Value) (ls : List (List UInt8)) (c : Nat) (va : Value) (acs : List Wr) (ca : Nat) (w : World) (hG : (glb 0).holds w) (hl_k : k.length = 32) (hr_ls : (rd v 32 ls.length c (ls.flatMap bv)).holds w) (ho_ls : ∀ x, x ∈ ls → x.length = 32) (hr_acs : (rd va 34 acs.length ca (acs.flatMap wcl)).holds w) (ho_acs : ∀ x, x ∈ acs → OkAc x) (hh : ¬ (1 ≤ y ∧ y ≤ 12)) : Calls Tryd.prog 6 #[.agg (bv k).toArray, .agg ([[.int .i64 y], [v]] : List (List Value)).flatten.toArray, va] w fun e w' => e = .returned (.bool true) ∧ Mem w [] w' [] := by
  have hll : (ls.take (min ls.length 40)).length = min ls.length 40 := by rw [List.length_take]; omega
  have hoL : OkTs (ls.take (min ls.length 40)) := fun x hx => ho_ls x (List.mem_of_mem_take hx)
  have hM : Mem w [] w [rd v 32 ls.length c (ls.flatMap bv), rd va 34 acs.length ca (acs.flatMap wcl), glb 0] := Mem.startR w (fun g hg => by
    simp only [List.mem_cons, List.not_mem_nil, or_false] at hg
    rcases hg with rfl | rfl | rfl
    · exact ⟨hr_ls, rfl⟩
    · exact ⟨hr_acs, rfl⟩
    · exact ⟨hG, rfl⟩)
  refine f_enter 206 Tryd.func6 rfl rfl rfl ?_
  intro a hE
  replace hE : Env a 206 [(0, _), (1, _), (2, _)] := hE
  refine wp_seq_k (fun K1 hK1 => ?_)
  refine wp_plain [false, false, true] rfl rfl ?_
  refine s_box (ss := [bv k]) [32] hE hM rfl (by simp [Value.cells]) (by simp [*]) rfl ?_; clear hE a; intro a b3 w1 hE hM'
  clear hM; have hM := hM'; clear hM'
  refine s_box (ss := [[.int .i64 y], [v]]) [1, 1] hE hM rfl rfl (by simp [*]) rfl ?_; clear hE a; intro a b4 w2 hE hM'
  clear hM; have hM := hM'; clear hM'
  refine s_assign hE rfl rfl ?_; clear hE a; intro a hE
  refine q_nil ?_
  replace hE : Env a 206 [(2, _), (3, _), (4, _), (6, _)] := hE.sel [2, 3, 4, 6] rfl
  refine hK1 _ _ ?_
  refine wp_seq_k (fun K2 hK2 => ?_)
  refine wp_seq_k (fun K3 hK3 => ?_)
  refine wp_plain [true, true, true, true, true, true, true, true] rfl rfl ?_
  refine s_fieldAddr hE rfl fo26_0 rfl ?_; clear hE a; intro a hE
  refine s_load1 hE rfl (hM.get 0 rfl) rfl one3 (by intro X h; cases h) rfl ?_; clear hE a; intro a hE
  refine s_bin hE rfl rfl bin_gtr rfl ?_; clear hE a; intro a hE
  refine s_move hE rfl rfl ?_; clear hE a; intro a hE
  refine hE.split 34 rfl (fun hb34 hE' => ?_) (fun hb34 hE' => ?_)
  · replace hE := hE'; clear hE'
    replace hb34 := of_decide_eq_true hb34
    refine g_yes hE rfl rfl ?_
    refine s_fieldAddr hE rfl fo26_0 rfl ?_; clear hE a; intro a hE
    refine g_yes hE rfl rfl ?_
    refine s_load1 hE rfl (hM.get 0 rfl) rfl one3 (by intro X h; cases h) rfl ?_; clear hE a; intro a hE
    refine g_yes hE rfl rfl ?_
    refine s_bin hE rfl rfl bin_leq rfl ?_; clear hE a; intro a hE
    refine s_pickt hE rfl rfl rfl ?_; clear hE a; intro a hE
    refine q_nil ?_
    replace hE : Env a 206 [(2, _), (3, _), (4, _), (6, _), (38, _)] := hE.sel [2, 3, 4, 6, 38] rfl
    refine hK3 _ _ ?_
    refine hE.split 38 rfl (fun hb38 hE' => ?_) (fun hb38 hE' => ?_)
    · replace hE := hE'; clear hE'
      replace hb38 := of_decide_eq_true hb38
      refine wp_cond_true (hE.eval rfl) ?_
      refine wp_seq_k (fun K4 hK4 => ?_)
      refine wp_plain [false, true] rfl rfl ?_
      refine s_call hE rfl Tryd.call9 (works_c  _ (hM.get 4 rfl)) rfl ?_
      rintro e w3 ⟨rfl, hN⟩
      refine ⟨_, rfl, trivial, ?_⟩; clear hE a; intro a hE
      replace hM : Mem _ _ w3 [_, _, _, _, _] := hM.call0 hN trivial; clear hN
      refine s_assign hE rfl rfl ?_; clear hE a; intro a hE
      refine q_nil ?_
      replace hE : Env a 206 [(2, _), (3, _), (4, _), (6, _), (38, _)] := hE.sel [2, 3, 4, 6, 38] rfl
      refine hK4 _ _ ?_
      refine wp_ret ?_
      refine q_then_r ?_
      refine f_ret1 hE rfl rfl ?_
      exact ⟨(by first | rfl | (simp; done)), hM.pick [] rfl⟩
    · replace hE := hE'; clear hE'
      replace hb38 := of_decide_eq_false hb38
      refine wp_cond_false (hE.eval rfl) ?_
      refine wp_skip ?_
      refine hK2 _ _ ?_
      refine wp_seq_k (fun K4 hK4 => ?_)
      refine wp_drawnM hM (by kernel_rfl) (fun _ => False) [(0, true), (1, true), (2, true), (3, true), (4, true), (5, true), (6, true), (7, true), (8, true), (9, true), (10, false), (11, true), (12, true), (13, true), (14, true), (15, true)] [(10, [(11, 10), (12, 11), (13, 11), (14, 10), (15, 10)])] (by kernel_rfl) rfl ?_
      intro w3 hM' hww3; clear hM; have hM := hM'; clear hM'
      refine s_loadN hE rfl (hM.get 1 rfl) row23 rfl (by intro X h; cases h; simp) rfl ?_; clear hE a; intro a hE
      refine s_fieldAddr hE rfl fo26_0 rfl ?_; clear hE a; intro a hE
      refine s_load1 hE rfl (hM.get 0 rfl) rfl one3 (by intro X h; cases h; simp) rfl ?_; clear hE a; intro a hE
      refine s_fieldAddr hE rfl fo26_1 rfl ?_; clear hE a; intro a hE
      refine s_load1 hE rfl (hM.get 0 rfl) rfl one24 (by intro X h; cases h; simp) rfl ?_; clear hE a; intro a hE
      refine s_fieldAddr hE rfl fo26_1 rfl ?_; clear hE a; intro a hE
      refine s_load1 hE rfl (hM.get 0 rfl) rfl one24 (by intro X h; cases h; simp) rfl ?_; clear hE a; intro a hE
      refine s_len hE rfl Tryd.underlying24 (rd_slice (hM.get 2 rfl)) rfl ?_; clear hE a; intro a hE
      refine s_min hE rfl rfl rfl ?_; clear hE a; intro a hE
      replace hE := hE.cast 49 rfl (show _ = Value.int .i64 ((min ls.length 40 : Nat) : Int) from congrArg (Value.int .i64) (by split <;> omega))
      have hcap50 := rd_len (hM.get 2 rfl)
      refine s_slice (l := 0) (h := min ls.length 40) (mx' := c) hE rfl (hM.get 2 rfl) slt24 rfl ⟨_, rfl⟩ rfl (by simp) (Nat.zero_le _) (by first | omega | (simp; omega) | decide +kernel) (by first | omega | (simp; omega) | decide +kernel) (Nat.le_refl _) rfl ?_; clear hE a; intro a v50 hE hr50 hvb50
      replace hr50 := rd_takeR (f := bv) (ls := ls) (fun x hx => ((bv_length _).trans (ho_ls x hx))) (by first | omega | (simp; omega) | decide +kernel) hr50
      replace hM := hM.addPart 2 rfl hr50 hvb50; clear hr50
      refine s_call hE rfl Tryd.call10 (tnew_no1 k y _ (ls.take (min ls.length 40)) _ _ hl_k (hM.get 0 rfl) (ok_take ho_ls) (by omega)) rfl ?_
      rintro e w4 ⟨rfl, hN⟩
      refine ⟨_, rfl, hN.sta0 _, ?_⟩; clear hE a; intro a hE
      replace hM : Mem _ _ w4 [_, _, _, _, _, _] := hM.call0 hN trivial; clear hN
      refine s_move hE rfl rfl ?_; clear hE a; intro a hE
      refine s_extract hE rfl rfl rfl ?_; clear hE a; intro a hE
      refine s_extract hE rfl rfl rfl ?_; clear hE a; intro a hE
      refine s_assign hE rfl rfl ?_; clear hE a; intro a hE
      refine s_assign hE rfl rfl ?_; clear hE a; intro a hE
      refine q_nil ?_
      replace hE : Env a 206 [(2, _), (3, _), (4, _), (6, _), (7, _), (8, _), (38, _)] := hE.sel [2, 3, 4, 6, 7, 8, 38] rfl
      refine hK4 _ _ ?_
      refine wp_seq_k (fun K5 hK5 => ?_)
      refine wp_drawnM hM (by kernel_rfl) (fun _ => False) [(0, true), (1, true), (2, true), (3, true), (4, true), (5, true), (6, true), (7, true), (8, true), (9, true), (10, false), (11, true), (12, true), (13, true), (14, true), (15, true)] [(10, [(11, 10), (12, 11), (13, 11), (14, 10), (15, 10)])] (by kernel_rfl) rfl ?_
      intro w5 hM' hww5; clear hM; have hM := hM'; clear hM'
      refine s_loadN hE rfl (hM.get 2 rfl) row23 rfl (by intro X h; cases h; simp) rfl ?_; clear hE a; intro a hE
      refine s_fieldAddr hE rfl fo26_0 rfl ?_; clear hE a; intro a hE
      refine s_load1 hE rfl (hM.get 1 rfl) rfl one3 (by intro X h; cases h; simp) rfl ?_; clear hE a; intro a hE
      refine s_fieldAddr hE rfl fo26_1 rfl ?_; clear hE a; intro a hE
      refine s_load1 hE rfl (hM.get 1 rfl) rfl one24 (by intro X h; cases h; simp) rfl ?_; clear hE a; intro a hE
      refine s_fieldAddr hE rfl fo26_1 rfl ?_; clear hE a; intro a hE
      refine s_load1 hE rfl (hM.get 1 rfl) rfl one24 (by intro X h; cases h; simp) rfl ?_; clear hE a; intro a hE
      refine s_len hE rfl Tryd.underlying24 (rd_slice (hM.get 3 rfl)) rfl ?_; clear hE a; intro a hE
      refine s_min hE rfl rfl rfl ?_; clear hE a; intro a hE
      replace hE := hE.cast 63 rfl (show _ = Value.int .i64 ((min ls.length 40 : Nat) : Int) from congrArg (Value.int .i64) (by split <;> omega))
      have hcap64 := rd_len (hM.get 3 rfl)
      refine s_slice (l := 0) (h := min ls.length 40) (mx' := c) hE rfl (hM.get 3 rfl) slt24 rfl ⟨_, rfl⟩ rfl (by simp) (Nat.zero_le _) (by first | omega | (simp; omega) | decide +kernel) (by first | omega | (simp; omega) | decide +kernel) (Nat.le_refl _) rfl ?_; clear hE a; intro a v64 hE hr64 hvb64
      replace hr64 := rd_takeR (f := bv) (ls := ls) (fun x hx => ((bv_length _).trans (ho_ls x hx))) (by first | omega | (simp; omega) | decide +kernel) hr64
      replace hM := hM.addPart 3 rfl hr64 hvb64; clear hr64
      refine s_call hE rfl Tryd.call21 (rnew_no1 k y _ (ls.take (min ls.length 40)) _ _ hl_k (hM.get 0 rfl) (ok_take ho_ls) (by omega)) rfl ?_
      rintro e w6 ⟨rfl, hN⟩
      refine ⟨_, rfl, hN.sta0 _, ?_⟩; clear hE a; intro a hE
      replace hM : Mem _ _ w6 [_, _, _, _, _, _, _] := hM.call0 hN trivial; clear hN
      refine s_move hE rfl rfl ?_; clear hE a; intro a hE
      refine s_extract hE rfl rfl rfl ?_; clear hE a; intro a hE
      refine s_extract hE rfl rfl rfl ?_; clear hE a; intro a hE
      refine s_assign hE rfl rfl ?_; clear hE a; intro a hE
      refine s_assign hE rfl rfl ?_; clear hE a; intro a hE
      refine q_nil ?_
      replace hE : Env a 206 [(2, _), (3, _), (4, _), (6, _), (7, _), (8, _), (9, _), (10, _), (38, _)] := hE.sel [2, 3, 4, 6, 7, 8, 9, 10, 38] rfl
      refine hK5 _ _ ?_
      refine wp_seq_k (fun K6 hK6 => ?_)
      refine wp_seq_k (fun K7 hK7 => ?_)
      refine wp_plain [true, true, true] rfl rfl ?_
      refine s_move hE rfl rfl ?_; clear hE a; intro a hE
      refine s_move hE rfl rfl ?_; clear hE a; intro a hE
      refine s_bin hE rfl rfl bin_neq rfl ?_; clear hE a; intro a hE
      replace hE := hE.cast 70 rfl (show _ = Value.bool false from (congrArg Value.bool (by decide)))
      refine q_nil ?_
      replace hE : Env a 206 [(2, _), (3, _), (4, _), (6, _), (7, _), (8, _), (9, _), (38, _), (70, _)] := hE.sel [2, 3, 4, 6, 7, 8, 9, 38, 70] rfl
      refine hK7 _ _ ?_
      refine wp_cond_false (hE.eval rfl) ?_
      refine wp_skip ?_
      refine hK6 _ _ ?_
      refine wp_seq_k (fun K8 hK8 => ?_)
      refine wp_seq_k (fun K9 hK9 => ?_)
      refine wp_plain [true, true] rfl rfl ?_
      refine s_move hE rfl rfl ?_; clear hE a; intro a hE
      refine s_bin hE rfl rfl bin_neq rfl ?_; clear hE a; intro a hE
      replace hE := hE.cast 72 rfl (show _ = Value.bool true from (congrArg Value.bool (by decide)))
      refine q_nil ?_
      replace hE : Env a 206 [(2, _), (3, _), (4, _), (6, _), (7, _), (8, _), (9, _), (38, _), (70, _), (72, _)] := hE.sel [2, 3, 4, 6, 7, 8, 9, 38, 70, 72] rfl
      refine hK9 _ _ ?_
      refine wp_cond_true (hE.eval rfl) ?_
      refine wp_seq_k (fun K10 hK10 => ?_)
      refine wp_plain [true, true, true, false, true, true] rfl rfl ?_
      refine s_move hE rfl rfl ?_; clear hE a; intro a hE
      refine s_bin hE rfl rfl (bins_nil_nil Tryd.underlying29).1 rfl ?_; clear hE a; intro a hE
      refine s_move hE rfl rfl ?_; clear hE a; intro a hE
      refine g_yes hE rfl rfl ?_
      refine s_call hE rfl Tryd.call9 (works_c  _ (hM.get 6 rfl)) rfl ?_
      rintro e w7 ⟨rfl, hN⟩
      refine ⟨_, rfl, trivial, ?_⟩; clear hE a; intro a hE
      replace hM : Mem _ _ w7 [_, _, _, _, _, _, _] := hM.call0 hN trivial; clear hN
      refine s_pickt hE rfl rfl rfl ?_; clear hE a; intro a hE
      refine s_assign hE rfl rfl ?_; clear hE a; intro a hE
      refine q_nil ?_
      replace hE : Env a 206 [(2, _), (3, _), (4, _), (6, _), (7, _), (8, _), (9, _), (38, _), (70, _), (72, _)] := hE.sel [2, 3, 4, 6, 7, 8, 9, 38, 70, 72] rfl
      refine hK10 _ _ ?_
      refine wp_ret ?_
      refine q_then_r ?_
      refine f_ret1 hE rfl rfl ?_
      exact ⟨(by first | rfl | (simp; done)), hM.pick [] rfl⟩
  · replace hE := hE'; clear hE'
    replace hb34 := of_decide_eq_false hb34
    refine g_no (b := false) hE rfl rfl rfl ?_; clear hE a; intro a hE
    refine g_no (b := false) hE rfl rfl rfl ?_; clear hE a; intro a hE
    refine g_no (b := false) hE rfl rfl rfl ?_; clear hE a; intro a hE
    refine s_pickf hE rfl rfl rfl ?_; clear hE a; intro a hE
    refine q_nil ?_
    replace hE : Env a 206 [(2, _), (3, _), (4, _), (6, _), (38, _)] := hE.sel [2, 3, 4, 6, 38] rfl
    refine hK3 _ _ ?_
    refine wp_cond_false (hE.eval rfl) ?_
    refine wp_skip ?_
    refine hK2 _ _ ?_
    refine wp_seq_k (fun K4 hK4 => ?_)
    refine wp_drawnM hM (by kernel_rfl) (fun _ => False) [(0, true), (1, true), (2, true), (3, true), (4, true), (5, true), (6, true), (7, true), (8, true), (9, true), (10, false), (11, true), (12, true), (13, true), (14, true), (15, true)] [(10, [(11, 10), (12, 11), (13, 11), (14, 10), (15, 10)])] (by kernel_rfl) rfl ?_
    intro w3 hM' hww3; clear hM; have hM := hM'; clear hM'
    refine s_loadN hE rfl (hM.get 1 rfl) row23 rfl (by intro X h; cases h; simp) rfl ?_; clear hE a; intro a hE
    refine s_fieldAddr hE rfl fo26_0 rfl ?_; clear hE a; intro a hE
    refine s_load1 hE rfl (hM.get 0 rfl) rfl one3 (by intro X h; cases h; simp) rfl ?_; clear hE a; intro a hE
    refine s_fieldAddr hE rfl fo26_1 rfl ?_; clear hE a; intro a hE
    refine s_load1 hE rfl (hM.get 0 rfl) rfl one24 (by intro X h; cases h; simp) rfl ?_; clear hE a; intro a hE
    refine s_fieldAddr hE rfl fo26_1 rfl ?_; clear hE a; intro a hE
    refine s_load1 hE rfl (hM.get 0 rfl) rfl one24 (by intro X h; cases h; simp) rfl ?_; clear hE a; intro a hE
    refine s_len hE rfl Tryd.underlying24 (rd_slice (hM.get 2 rfl)) rfl ?_; clear hE a; intro a hE
    refine s_min hE rfl rfl rfl ?_; clear hE a; intro a hE
    replace hE := hE.cast 49 rfl (show _ = Value.int .i64 ((min ls.length 40 : Nat) : Int) from congrArg (Value.int .i64) (by split <;> omega))
    have hcap50 := rd_len (hM.get 2 rfl)
    refine s_slice (l := 0) (h := min ls.length 40) (mx' := c) hE rfl (hM.get 2 rfl) slt24 rfl ⟨_, rfl⟩ rfl (by simp) (Nat.zero_le _) (by first | omega | (simp; omega) | decide +kernel) (by first | omega | (simp; omega) | decide +kernel) (Nat.le_refl _) rfl ?_; clear hE a; intro a v50 hE hr50 hvb50
    replace hr50 := rd_takeR (f := bv) (ls := ls) (fun x hx => ((bv_length _).trans (ho_ls x hx))) (by first | omega | (simp; omega) | decide +kernel) hr50
    replace hM := hM.addPart 2 rfl hr50 hvb50; clear hr50
    refine s_call hE rfl Tryd.call10 (tnew_no1 k y _ (ls.take (min ls.length 40)) _ _ hl_k (hM.get 0 rfl) (ok_take ho_ls) (by omega)) rfl ?_
    rintro e w4 ⟨rfl, hN⟩
    refine ⟨_, rfl, hN.sta0 _, ?_⟩; clear hE a; intro a hE
    replace hM : Mem _ _ w4 [_, _, _, _, _, _] := hM.call0 hN trivial; clear hN
    refine s_move hE rfl rfl ?_; clear hE a; intro a hE
    refine s_extract hE rfl rfl rfl ?_; clear hE a; intro a hE
    refine s_extract hE rfl rfl rfl ?_; clear hE a; intro a hE
    refine s_assign hE rfl rfl ?_; clear hE a; intro a hE
    refine s_assign hE rfl rfl ?_; clear hE a; intro a hE
    refine q_nil ?_
    replace hE : Env a 206 [(2, _), (3, _), (4, _), (6, _), (7, _), (8, _), (38, _)] := hE.sel [2, 3, 4, 6, 7, 8, 38] rfl
    refine hK4 _ _ ?_
    refine wp_seq_k (fun K5 hK5 => ?_)
    refine wp_drawnM hM (by kernel_rfl) (fun _ => False) [(0, true), (1, true), (2, true), (3, true), (4, true), (5, true), (6, true), (7, true), (8, true), (9, true), (10, false), (11, true), (12, true), (13, true), (14, true), (15, true)] [(10, [(11, 10), (12, 11), (13, 11), (14, 10), (15, 10)])] (by kernel_rfl) rfl ?_
    intro w5 hM' hww5; clear hM; have hM := hM'; clear hM'
    refine s_loadN hE rfl (hM.get 2 rfl) row23 rfl (by intro X h; cases h; simp) rfl ?_; clear hE a; intro a hE
    refine s_fieldAddr hE rfl fo26_0 rfl ?_; clear hE a; intro a hE
    refine s_load1 hE rfl (hM.get 1 rfl) rfl one3 (by intro X h; cases h; simp) rfl ?_; clear hE a; intro a hE
    refine s_fieldAddr hE rfl fo26_1 rfl ?_; clear hE a; intro a hE
    refine s_load1 hE rfl (hM.get 1 rfl) rfl one24 (by intro X h; cases h; simp) rfl ?_; clear hE a; intro a hE
    refine s_fieldAddr hE rfl fo26_1 rfl ?_; clear hE a; intro a hE
    refine s_load1 hE rfl (hM.get 1 rfl) rfl one24 (by intro X h; cases h; simp) rfl ?_; clear hE a; intro a hE
    refine s_len hE rfl Tryd.underlying24 (rd_slice (hM.get 3 rfl)) rfl ?_; clear hE a; intro a hE
    refine s_min hE rfl rfl rfl ?_; clear hE a; intro a hE
    replace hE := hE.cast 63 rfl (show _ = Value.int .i64 ((min ls.length 40 : Nat) : Int) from congrArg (Value.int .i64) (by split <;> omega))
    have hcap64 := rd_len (hM.get 3 rfl)
    refine s_slice (l := 0) (h := min ls.length 40) (mx' := c) hE rfl (hM.get 3 rfl) slt24 rfl ⟨_, rfl⟩ rfl (by simp) (Nat.zero_le _) (by first | omega | (simp; omega) | decide +kernel) (by first | omega | (simp; omega) | decide +kernel) (Nat.le_refl _) rfl ?_; clear hE a; intro a v64 hE hr64 hvb64
    replace hr64 := rd_takeR (f := bv) (ls := ls) (fun x hx => ((bv_length _).trans (ho_ls x hx))) (by first | omega | (simp; omega) | decide +kernel) hr64
    replace hM := hM.addPart 3 rfl hr64 hvb64; clear hr64
    refine s_call hE rfl Tryd.call21 (rnew_no1 k y _ (ls.take (min ls.length 40)) _ _ hl_k (hM.get 0 rfl) (ok_take ho_ls) (by omega)) rfl ?_
    rintro e w6 ⟨rfl, hN⟩
    refine ⟨_, rfl, hN.sta0 _, ?_⟩; clear hE a; intro a hE
    replace hM : Mem _ _ w6 [_, _, _, _, _, _, _] := hM.call0 hN trivial; clear hN
    refine s_move hE rfl rfl ?_; clear hE a; intro a hE
    refine s_extract hE rfl rfl rfl ?_; clear hE a; intro a hE
    refine s_extract hE rfl rfl rfl ?_; clear hE a; intro a hE
    refine s_assign hE rfl rfl ?_; clear hE a; intro a hE
    refine s_assign hE rfl rfl ?_; clear hE a; intro a hE
    refine q_nil ?_
    replace hE : Env a 206 [(2, _), (3, _), (4, _), (6, _), (7, _), (8, _), (9, _), (10, _), (38, _)] := hE.sel [2, 3, 4, 6, 7, 8, 9, 10, 38] rfl
    refine hK5 _ _ ?_
    refine wp_seq_k (fun K6 hK6 => ?_)
    refine wp_seq_k (fun K7 hK7 => ?_)
    refine wp_plain [true, true, true] rfl rfl ?_
    refine s_move hE rfl rfl ?_; clear hE a; intro a hE
    refine s_move hE rfl rfl ?_; clear hE a; intro a hE
    refine s_bin hE rfl rfl bin_neq rfl ?_; clear hE a; intro a hE
    replace hE := hE.cast 70 rfl (show _ = Value.bool false from (congrArg Value.bool (by decide)))
    refine q_nil ?_
    replace hE : Env a 206 [(2, _), (3, _), (4, _), (6, _), (7, _), (8, _), (9, _), (38, _), (70, _)] := hE.sel [2, 3, 4, 6, 7, 8, 9, 38, 70] rfl
    refine hK7 _ _ ?_
    refine wp_cond_false (hE.eval rfl) ?_
    refine wp_skip ?_
    refine hK6 _ _ ?_
    refine wp_seq_k (fun K8 hK8 => ?_)
    refine wp_seq_k (fun K9 hK9 => ?_)
    refine wp_plain [true, true] rfl rfl ?_
    refine s_move hE rfl rfl ?_; clear hE a; intro a hE
    refine s_bin hE rfl rfl bin_neq rfl ?_; clear hE a; intro a hE
    replace hE := hE.cast 72 rfl (show _ = Value.bool true from (congrArg Value.bool (by decide)))
    refine q_nil ?_
    replace hE : Env a 206 [(2, _), (3, _), (4, _), (6, _), (7, _), (8, _), (9, _), (38, _), (70, _), (72, _)] := hE.sel [2, 3, 4, 6, 7, 8, 9, 38, 70, 72] rfl
    refine hK9 _ _ ?_
    refine wp_cond_true (hE.eval rfl) ?_
    refine wp_seq_k (fun K10 hK10 => ?_)
    refine wp_plain [true, true, true, false, true, true] rfl rfl ?_
    refine s_move hE rfl rfl ?_; clear hE a; intro a hE
    refine s_bin hE rfl rfl (bins_nil_nil Tryd.underlying29).1 rfl ?_; clear hE a; intro a hE
    refine s_move hE rfl rfl ?_; clear hE a; intro a hE
    refine g_yes hE rfl rfl ?_
    refine s_call hE rfl Tryd.call9 (works_c  _ (hM.get 6 rfl)) rfl ?_
    rintro e w7 ⟨rfl, hN⟩
    refine ⟨_, rfl, trivial, ?_⟩; clear hE a; intro a hE
    replace hM : Mem _ _ w7 [_, _, _, _, _, _, _] := hM.call0 hN trivial; clear hN
    refine s_pickt hE rfl rfl rfl ?_; clear hE a; intro a hE
    refine s_assign hE rfl rfl ?_; clear hE a; intro a hE
    refine q_nil ?_
    replace hE : Env a 206 [(2, _), (3, _), (4, _), (6, _), (7, _), (8, _), (9, _), (38, _), (70, _), (72, _)] := hE.sel [2, 3, 4, 6, 7, 8, 9, 38, 70, 72] rfl
    refine hK10 _ _ ?_
    refine wp_ret ?_
    refine q_then_r ?_
    refine f_ret1 hE rfl rfl ?_
    exact ⟨(by first | rfl | (simp; done)), hM.pick [] rfl⟩
set_option maxRecDepth 20000 in
theorem treePlays_no2 (k : List UInt8) (h : Nat) (v : Value) (ls : List (List UInt8)) (c : Nat) (va : Value) (acs : List Wr) (ca : Nat) (w : World) (hG : (glb 0).holds w) (hl_k : k.length = 32) (hr_ls : (rd v 32 ls.length c (ls.flatMap bv)).holds w) (ho_ls : ∀ x, x ∈ ls → x.length = 32) (hr_acs : (rd va 34 acs.length ca (acs.flatMap wcl)).holds w) (ho_acs : ∀ x, x ∈ acs → OkAc x) (hh5 : 1 ≤ h ∧ h ≤ 5) (hm : ¬ min ls.length 40 ≤ 2 ^ h) : Calls Tryd.prog 6 #[.agg (bv k).toArray, .agg ([[.int .i64 ((h : Nat) : Int)], [v]] : List (List Value)).flatten.toArray, va] w fun e w' => e = .returned (.bool true) ∧ Mem w [] w' [] := by
  have hll : (ls.take (min ls.length 40)).length = min ls.length 40 := by rw [List.length_take]; omega
  have hoL : OkTs (ls.take (min ls.length 40)) := fun x hx => ho_ls x (List.mem_of_mem_take hx)
  have hM : Mem w [] w [rd v 32 ls.length c (ls.flatMap bv), rd va 34 acs.length ca (acs.flatMap wcl), glb 0] := Mem.startR w (fun g hg => by
    simp only [List.mem_cons, List.not_mem_nil, or_false] at hg
    rcases hg with rfl | rfl | rfl
    · exact ⟨hr_ls, rfl⟩
    · exact ⟨hr_acs, rfl⟩
    · exact ⟨hG, rfl⟩)
  refine f_enter 206 Tryd.func6 rfl rfl rfl ?_
  intro a hE
  replace hE : Env a 206 [(0, _), (1, _), (2, _)] := hE
  refine wp_seq_k (fun K1 hK1 => ?_)
  refine wp_plain [false, false, true] rfl rfl ?_
  refine s_box (ss := [bv k]) [32] hE hM rfl (by simp [Value.cells]) (by simp [*]) rfl ?_; clear hE a; intro a b3 w1 hE hM'
  clear hM; have hM := hM'; clear hM'
  refine s_box (ss := [[.int .i64 ((h : Nat) : Int)], [v]]) [1, 1] hE hM rfl rfl (by simp [*]) rfl ?_; clear hE a; intro a b4 w2 hE hM'
  clear hM; have hM := hM'; clear hM'
  refine s_assign hE rfl rfl ?_; clear hE a; intro a hE
  refine q_nil ?_
  replace hE : Env a 206 [(2, _), (3, _), (4, _), (6, _)] := hE.sel [2, 3, 4, 6] rfl
  refine hK1 _ _ ?_
  refine wp_seq_k (fun K2 hK2 => ?_)
  refine wp_seq_k (fun K3 hK3 => ?_)
  refine wp_plain [true, true, true, true, true, true, true, true] rfl rfl ?_
  refine s_fieldAddr hE rfl fo26_0 rfl ?_; clear hE a; intro a hE
  refine s_load1 hE rfl (hM.get 0 rfl) rfl one3 (by intro X h; cases h) rfl ?_; clear hE a; intro a hE
  refine s_bin hE rfl rfl bin_gtr rfl ?_; clear hE a; intro a hE
  refine s_move hE rfl rfl ?_; clear hE a; intro a hE
  replace hE := hE.cast 34 rfl (show _ = Value.bool false from (congrArg Value.bool (decide_eq_false (by omega))))
  refine g_no (b := false) hE rfl rfl rfl ?_; clear hE a; intro a hE
  refine g_no (b := false) hE rfl rfl rfl ?_; clear hE a; intro a hE
  refine g_no (b := false) hE rfl rfl rfl ?_; clear hE a; intro a hE
  refine s_pickf hE rfl rfl rfl ?_; clear hE a; intro a hE
  refine q_nil ?_
  replace hE : Env a 206 [(2, _), (3, _), (4, _), (6, _), (38, _)] := hE.sel [2, 3, 4, 6, 38] rfl
  refine hK3 _ _ ?_
  refine wp_cond_false (hE.eval rfl) ?_
  refine wp_skip ?_
  refine hK2 _ _ ?_
  refine wp_seq_k (fun K4 hK4 => ?_)
  refine wp_drawnM hM (by kernel_rfl) (fun _ => False) [(0, true), (1, true), (2, true), (3, true), (4, true), (5, true), (6, true), (7, true), (8, true), (9, true), (10, false), (11, true), (12, true), (13, true), (14, true), (15, true)] [(10, [(11, 10), (12, 11), (13, 11), (14, 10), (15, 10)])] (by kernel_rfl) rfl ?_
  intro w3 hM' hww3; clear hM; have hM := hM'; clear hM'
  refine s_loadN hE rfl (hM.get 1 rfl) row23 rfl (by intro X h; cases h; simp) rfl ?_; clear hE a; intro a hE
  refine s_fieldAddr hE rfl fo26_0 rfl ?_; clear hE a; intro a hE
  refine s_load1 hE rfl (hM.get 0 rfl) rfl one3 (by intro X h; cases h; simp) rfl ?_; clear hE a; intro a hE
  refine s_fieldAddr hE rfl fo26_1 rfl ?_; clear hE a; intro a hE
  refine s_load1 hE rfl (hM.get 0 rfl) rfl one24 (by intro X h; cases h; simp) rfl ?_; clear hE a; intro a hE
  refine s_fieldAddr hE rfl fo26_1 rfl ?_; clear hE a; intro a hE
  refine s_load1 hE rfl (hM.get 0 rfl) rfl one24 (by intro X h; cases h; simp) rfl ?_; clear hE a; intro a hE
  refine s_len hE rfl Tryd.underlying24 (rd_slice (hM.get 2 rfl)) rfl ?_; clear hE a; intro a hE
  refine s_min hE rfl rfl rfl ?_; clear hE a; intro a hE
  replace hE := hE.cast 49 rfl (show _ = Value.int .i64 ((min ls.length 40 : Nat) : Int) from congrArg (Value.int .i64) (by split <;> omega))
  have hcap50 := rd_len (hM.get 2 rfl)
  refine s_slice (l := 0) (h := min ls.length 40) (mx' := c) hE rfl (hM.get 2 rfl) slt24 rfl ⟨_, rfl⟩ rfl (by simp) (Nat.zero_le _) (by first | omega | (simp; omega) | decide +kernel) (by first | omega | (simp; omega) | decide +kernel) (Nat.le_refl _) rfl ?_; clear hE a; intro a v50 hE hr50 hvb50
  replace hr50 := rd_takeR (f := bv) (ls := ls) (fun x hx => ((bv_length _).trans (ho_ls x hx))) (by first | omega | (simp; omega) | decide +kernel) hr50
  replace hM := hM.addPart 2 rfl hr50 hvb50; clear hr50
  refine s_call hE rfl Tryd.call10 (tnew_no2 k h _ (ls.take (min ls.length 40)) _ _ hl_k (hM.get 0 rfl) (ok_take ho_ls) (by omega) (by rw [hll]; exact hm)) rfl ?_
  rintro e w4 ⟨rfl, hN⟩
  refine ⟨_, rfl, hN.sta0 _, ?_⟩; clear hE a; intro a hE
  replace hM : Mem _ _ w4 [_, _, _, _, _, _] := hM.call0 hN trivial; clear hN
  refine s_move hE rfl rfl ?_; clear hE a; intro a hE
  refine s_extract hE rfl rfl rfl ?_; clear hE a; intro a hE
  refine s_extract hE rfl rfl rfl ?_; clear hE a; intro a hE
  refine s_assign hE rfl rfl ?_; clear hE a; intro a hE
  refine s_assign hE rfl rfl ?_; clear hE a; intro a hE
  refine q_nil ?_
  replace hE : Env a 206 [(2, _), (3, _), (4, _), (6, _), (7, _), (8, _), (38, _)] := hE.sel [2, 3, 4, 6, 7, 8, 38] rfl
  refine hK4 _ _ ?_
  refine wp_seq_k (fun K5 hK5 => ?_)
  refine wp_drawnM hM (by kernel_rfl) (fun _ => False) [(0, true), (1, true), (2, true), (3, true), (4, true), (5, true), (6, true), (7, true), (8, true), (9, true), (10, false), (11, true), (12, true), (13, true), (14, true), (15, true)] [(10, [(11, 10), (12, 11), (13, 11), (14, 10), (15, 10)])] (by kernel_rfl) rfl ?_
  intro w5 hM' hww5; clear hM; have hM := hM'; clear hM'
  refine s_loadN hE rfl (hM.get 2 rfl) row23 rfl (by intro X h; cases h; simp) rfl ?_; clear hE a; intro a hE
  refine s_fieldAddr hE rfl fo26_0 rfl ?_; clear hE a; intro a hE
  refine s_load1 hE rfl (hM.get 1 rfl) rfl one3 (by intro X h; cases h; simp) rfl ?_; clear hE a; intro a hE
  refine s_fieldAddr hE rfl fo26_1 rfl ?_; clear hE a; intro a hE
  refine s_load1 hE rfl (hM.get 1 rfl) rfl one24 (by intro X h; cases h; simp) rfl ?_; clear hE a; intro a hE
  refine s_fieldAddr hE rfl fo26_1 rfl ?_; clear hE a; intro a hE
  refine s_load1 hE rfl (hM.get 1 rfl) rfl one24 (by intro X h; cases h; simp) rfl ?_; clear hE a; intro a hE
  refine s_len hE rfl Tryd.underlying24 (rd_slice (hM.get 3 rfl)) rfl ?_; clear hE a; intro a hE
  refine s_min hE rfl rfl rfl ?_; clear hE a; intro a hE
  replace hE := hE.cast 63 rfl (show _ = Value.int .i64 ((min ls.length 40 : Nat) : Int) from congrArg (Value.int .i64) (by split <;> omega))
  have hcap64 := rd_len (hM.get 3 rfl)
  refine s_slice (l := 0) (h := min ls.length 40) (mx' := c) hE rfl (hM.get 3 rfl) slt24 rfl ⟨_, rfl⟩ rfl (by simp) (Nat.zero_le _) (by first | omega | (simp; omega) | decide +kernel) (by first | omega | (simp; omega) | decide +kernel) (Nat.le_refl _) rfl ?_; clear hE a; intro a v64 hE hr64 hvb64
  replace hr64 := rd_takeR (f := bv) (ls := ls) (fun x hx => ((bv_length _).trans (ho_ls x hx))) (by first | omega | (simp; omega) | decide +kernel) hr64
  replace hM := hM.addPart 3 rfl hr64 hvb64; clear hr64
  refine s_call hE rfl Tryd.call21 (rnew_no2 k h _ (ls.take (min ls.length 40)) _ _ hl_k (hM.get 0 rfl) (ok_take ho_ls) (by omega) (by rw [hll]; exact hm)) rfl ?_
  rintro e w6 ⟨rfl, hN⟩
  refine ⟨_, rfl, hN.sta0 _, ?_⟩; clear hE a; intro a hE
  replace hM : Mem _ _ w6 [_, _, _, _, _, _, _] := hM.call0 hN trivial; clear hN
  refine s_move hE rfl rfl ?_; clear hE a; intro a hE
  refine s_extract hE rfl rfl rfl ?_; clear hE a; intro a hE
  refine s_extract hE rfl rfl rfl ?_; clear hE a; intro a hE
  refine s_assign hE rfl rfl ?_; clear hE a; intro a hE
  refine s_assign hE rfl rfl ?_; clear hE a; intro a hE
  refine q_nil ?_
  replace hE : Env a 206 [(2, _), (3, _), (4, _), (6, _), (7, _), (8, _), (9, _), (10, _), (38, _)] := hE.sel [2, 3, 4, 6, 7, 8, 9, 10, 38] rfl
  refine hK5 _ _ ?_
  refine wp_seq_k (fun K6 hK6 => ?_)
  refine wp_seq_k (fun K7 hK7 => ?_)
  refine wp_plain [true, true, true] rfl rfl ?_
  refine s_move hE rfl rfl ?_; clear hE a; intro a hE
  refine s_move hE rfl rfl ?_; clear hE a; intro a hE
  refine s_bin hE rfl rfl bin_neq rfl ?_; clear hE a; intro a hE
  replace hE := hE.cast 70 rfl (show _ = Value.bool false from (congrArg Value.bool (by decide)))
  refine q_nil ?_
  replace hE : Env a 206 [(2, _), (3, _), (4, _), (6, _), (7, _), (8, _), (9, _), (38, _), (70, _)] := hE.sel [2, 3, 4, 6, 7, 8, 9, 38, 70] rfl
  refine hK7 _ _ ?_
  refine wp_cond_false (hE.eval rfl) ?_
  refine wp_skip ?_
  refine hK6 _ _ ?_
  refine wp_seq_k (fun K8 hK8 => ?_)
  refine wp_seq_k (fun K9 hK9 => ?_)
  refine wp_plain [true, true] rfl rfl ?_
  refine s_move hE rfl rfl ?_; clear hE a; intro a hE
  refine s_bin hE rfl rfl bin_neq rfl ?_; clear hE a; intro a hE
  replace hE := hE.cast 72 rfl (show _ = Value.bool true from (congrArg Value.bool (by decide)))
  refine q_nil ?_
  replace hE : Env a 206 [(2, _), (3, _), (4, _), (6, _), (7, _), (8, _), (9, _), (38, _), (70, _), (72, _)] := hE.sel [2, 3, 4, 6, 7, 8, 9, 38, 70, 72] rfl
  refine hK9 _ _ ?_
  refine wp_cond_true (hE.eval rfl) ?_
  refine wp_seq_k (fun K10 hK10 => ?_)
  refine wp_plain [true, true, true, false, true, true] rfl rfl ?_
  refine s_move hE rfl rfl ?_; clear hE a; intro a hE
  refine s_bin hE rfl rfl (bins_nil_nil Tryd.underlying29).1 rfl ?_; clear hE a; intro a hE
  refine s_move hE rfl rfl ?_; clear hE a; intro a hE
  refine g_yes hE rfl rfl ?_
  refine s_call hE rfl Tryd.call9 (works_c  _ (hM.get 6 rfl)) rfl ?_
  rintro e w7 ⟨rfl, hN⟩
  refine ⟨_, rfl, trivial, ?_⟩; clear hE a; intro a hE
  replace hM : Mem _ _ w7 [_, _, _, _, _, _, _] := hM.call0 hN trivial; clear hN
  refine s_pickt hE rfl rfl rfl ?_; clear hE a; intro a hE
  refine s_assign hE rfl rfl ?_; clear hE a; intro a hE
  refine q_nil ?_
  replace hE : Env a 206 [(2, _), (3, _), (4, _), (6, _), (7, _), (8, _), (9, _), (38, _), (70, _), (72, _)] := hE.sel [2, 3, 4, 6, 7, 8, 9, 38, 70, 72] rfl
  refine hK10 _ _ ?_
  refine wp_ret ?_
  refine q_then_r ?_
  refine f_ret1 hE rfl rfl ?_
  exact ⟨(by first | rfl | (simp; done)), hM.pick [] rfl⟩
set_option maxRecDepth 20000 in
set_option maxHeartbeats 2000000 in
theorem treePlays_ok (k : List UInt8) (h : Nat) (v : Value) (ls : List (List UInt8)) (c : Nat) (va : Value) (acs : List Wr) (ca : Nat) (w : World) (hG : (glb 0).holds w) (hl_k : k.length = 32) (hr_ls : (rd v 32 ls.length c (ls.flatMap bv)).holds w) (ho_ls : ∀ x, x ∈ ls → x.length = 32) (hr_acs : (rd va 34 acs.length ca (acs.flatMap wcl)).holds w) (ho_acs : ∀ x, x ∈ acs → OkAc x) (hh5 : 1 ≤ h ∧ h ≤ 5) (hm : min ls.length 40 ≤ 2 ^ h) : Calls Tryd.prog 6 #[.agg (bv k).toArray, .agg ([[.int .i64 ((h : Nat) : Int)], [v]] : List (List Value)).flatten.toArray, va] w fun e w' => e = .returned (.bool true) ∧ Mem w [] w' [] := by
  have hh : 1 ≤ h ∧ h ≤ 12 := by omega
  have hpw := two_pow_le hh
  have hpw1 := hpw.1
  have hpw2 := hpw.2
  have hll : (ls.take (min ls.length 40)).length = min ls.length 40 := by rw [List.length_take]; omega
  have hoL : OkTs (ls.take (min ls.length 40)) := fun x hx => ho_ls x (List.mem_of_mem_take hx)
  have hM : Mem w [] w [rd v 32 ls.length c (ls.flatMap bv), rd va 34 acs.length ca (acs.flatMap wcl), glb 0] := Mem.startR w (fun g hg => by
    simp only [List.mem_cons, List.not_mem_nil, or_false] at hg
    rcases hg with rfl | rfl | rfl
    · exact ⟨hr_ls, rfl⟩
    · exact ⟨hr_acs, rfl⟩
    · exact ⟨hG, rfl⟩)
  refine f_enter 206 Tryd.func6 rfl rfl rfl ?_
  intro a hE
  replace hE : Env a 206 [(0, _), (1, _), (2, _)] := hE
  refine wp_seq_k (fun K1 hK1 => ?_)
  refine wp_plain [false, false, true] rfl rfl ?_
  refine s_box (ss := [bv k]) [32] hE hM rfl (by simp [Value.cells]) (by simp [*]) rfl ?_; clear hE a; intro a b3 w1 hE hM'
  clear hM; have hM := hM'; clear hM'
  refine s_box (ss := [[.int .i64 ((h : Nat) : Int)], [v]]) [1, 1] hE hM rfl rfl (by simp [*]) rfl ?_; clear hE a; intro a b4 w2 hE hM'
  clear hM; have hM := hM'; clear hM'
  refine s_assign hE rfl rfl ?_; clear hE a; intro a hE
  refine q_nil ?_
  replace hE : Env a 206 [(2, _), (3, _), (4, _), (6, _)] := hE.sel [2, 3, 4, 6] rfl
  refine hK1 _ _ ?_
  refine wp_seq_k (fun K2 hK2 => ?_)
  refine wp_seq_k (fun K3 hK3 => ?_)
  refine wp_plain [true, true, true, true, true, true, true, true] rfl rfl ?_
  refine s_fieldAddr hE rfl fo26_0 rfl ?_; clear hE a; intro a hE
  refine s_load1 hE rfl (hM.get 0 rfl) rfl one3 (by intro X h; cases h) rfl ?_; clear hE a; intro a hE
  refine s_bin hE rfl rfl bin_gtr rfl ?_; clear hE a; intro a hE
  refine s_move hE rfl rfl ?_; clear hE a; intro a hE
  replace hE := hE.cast 34 rfl (show _ = Value.bool false from (congrArg Value.bool (decide_eq_false (by omega))))
  refine g_no (b := false) hE rfl rfl rfl ?_; clear hE a; intro a hE
  refine g_no (b := false) hE rfl rfl rfl ?_; clear hE a; intro a hE
  refine g_no (b := false) hE rfl rfl rfl ?_; clear hE a; intro a hE
  refine s_pickf hE rfl rfl rfl ?_; clear hE a; intro a hE
  refine q_nil ?_
  replace hE : Env a 206 [(2, _), (3, _), (4, _), (6, _), (38, _)] := hE.sel [2, 3, 4, 6, 38] rfl
  refine hK3 _ _ ?_
  refine wp_cond_false (hE.eval rfl) ?_
  refine wp_skip ?_
  refine hK2 _ _ ?_
  refine wp_seq_k (fun K4 hK4 => ?_)
  refine wp_drawnM hM (by kernel_rfl) (fun _ => False) [(0, true), (1, true), (2, true), (3, true), (4, true), (5, true), (6, true), (7, true), (8, true), (9, true), (10, false), (11, true), (12, true), (13, true), (14, true), (15, true)] [(10, [(11, 10), (12, 11), (13, 11), (14, 10), (15, 10)])] (by kernel_rfl) rfl ?_
  intro w3 hM' hww3; clear hM; have hM := hM'; clear hM'
  refine s_loadN hE rfl (hM.get 1 rfl) row23 rfl (by intro X h; cases h; simp) rfl ?_; clear hE a; intro a hE
  refine s_fieldAddr hE rfl fo26_0 rfl ?_; clear hE a; intro a hE
  refine s_load1 hE rfl (hM.get 0 rfl) rfl one3 (by intro X h; cases h; simp) rfl ?_; clear hE a; intro a hE
  refine s_fieldAddr hE rfl fo26_1 rfl ?_; clear hE a; intro a hE
  refine s_load1 hE rfl (hM.get 0 rfl) rfl one24 (by intro X h; cases h; simp) rfl ?_; clear hE a; intro a hE
  refine s_fieldAddr hE rfl fo26_1 rfl ?_; clear hE a; intro a hE
  refine s_load1 hE rfl (hM.get 0 rfl) rfl one24 (by intro X h; cases h; simp) rfl ?_; clear hE a; intro a hE
  refine s_len hE rfl Tryd.underlying24 (rd_slice (hM.get 2 rfl)) rfl ?_; clear hE a; intro a hE
  refine s_min hE rfl rfl rfl ?_; clear hE a; intro a hE
  replace hE := hE.cast 49 rfl (show _ = Value.int .i64 ((min ls.length 40 : Nat) : Int) from congrArg (Value.int .i64) (by split <;> omega))
  have hcap50 := rd_len (hM.get 2 rfl)
  refine s_slice (l := 0) (h := min ls.length 40) (mx' := c) hE rfl (hM.get 2 rfl) slt24 rfl ⟨_, rfl⟩ rfl (by simp) (Nat.zero_le _) (by first | omega | (simp; omega) | decide +kernel) (by first | omega | (simp; omega) | decide +kernel) (Nat.le_refl _) rfl ?_; clear hE a; intro a v50 hE hr50 hvb50
  replace hr50 := rd_takeR (f := bv) (ls := ls) (fun x hx => ((bv_length _).trans (ho_ls x hx))) (by first | omega | (simp; omega) | decide +kernel) hr50
  replace hM := hM.addPart 2 rfl hr50 hvb50; clear hr50
  refine s_call hE rfl Tryd.call10 (tnew_c k h _ (ls.take (min ls.length 40)) _ _ (hM.get 5 rfl) (hM.get 0 rfl) hl_k (ok_take ho_ls) (by first | decide | omega) (by rw [hll]; exact hm)) rfl ?_
  rintro e w4 ⟨b51, u51, rfl, hN⟩
  refine ⟨_, rfl, hN.sta0 _, ?_⟩; clear hE a; intro a hE
  replace hM : Mem _ _ w4 [_, _, _, _, _, _, _, _] := hM.call0 hN ⟨rfl, rfl, trivial⟩; clear hN
  refine s_move hE rfl rfl ?_; clear hE a; intro a hE
  refine s_extract hE rfl rfl rfl ?_; clear hE a; intro a hE
  refine s_extract hE rfl rfl rfl ?_; clear hE a; intro a hE
  refine s_assign hE rfl rfl ?_; clear hE a; intro a hE
  refine s_assign hE rfl rfl ?_; clear hE a; intro a hE
  refine q_nil ?_
  replace hE : Env a 206 [(2, _), (3, _), (4, _), (6, _), (7, _), (8, _), (38, _)] := hE.sel [2, 3, 4, 6, 7, 8, 38] rfl
  refine hK4 _ _ ?_
  refine wp_seq_k (fun K5 hK5 => ?_)
  refine wp_drawnM hM (by kernel_rfl) (fun _ => False) [(0, true), (1, true), (2, true), (3, true), (4, true), (5, true), (6, true), (7, true), (8, true), (9, true), (10, false), (11, true), (12, true), (13, true), (14, true), (15, true)] [(10, [(11, 10), (12, 11), (13, 11), (14, 10), (15, 10)])] (by kernel_rfl) rfl ?_
  intro w5 hM' hww5; clear hM; have hM := hM'; clear hM'
  refine s_loadN hE rfl (hM.get 4 rfl) row23 rfl (by intro X h; cases h; simp) rfl ?_; clear hE a; intro a hE
  refine s_fieldAddr hE rfl fo26_0 rfl ?_; clear hE a; intro a hE
  refine s_load1 hE rfl (hM.get 3 rfl) rfl one3 (by intro X h; cases h; simp) rfl ?_; clear hE a; intro a hE
  refine s_fieldAddr hE rfl fo26_1 rfl ?_; clear hE a; intro a hE
  refine s_load1 hE rfl (hM.get 3 rfl) rfl one24 (by intro X h; cases h; simp) rfl ?_; clear hE a; intro a hE
  refine s_fieldAddr hE rfl fo26_1 rfl ?_; clear hE a; intro a hE
  refine s_load1 hE rfl (hM.get 3 rfl) rfl one24 (by intro X h; cases h; simp) rfl ?_; clear hE a; intro a hE
  refine s_len hE rfl Tryd.underlying24 (rd_slice (hM.get 5 rfl)) rfl ?_; clear hE a; intro a hE
  refine s_min hE rfl rfl rfl ?_; clear hE a; intro a hE
  replace hE := hE.cast 63 rfl (show _ = Value.int .i64 ((min ls.length 40 : Nat) : Int) from congrArg (Value.int .i64) (by split <;> omega))
  have hcap64 := rd_len (hM.get 5 rfl)
  refine s_slice (l := 0) (h := min ls.length 40) (mx' := c) hE rfl (hM.get 5 rfl) slt24 rfl ⟨_, rfl⟩ rfl (by simp) (Nat.zero_le _) (by first | omega | (simp; omega) | decide +kernel) (by first | omega | (simp; omega) | decide +kernel) (Nat.le_refl _) rfl ?_; clear hE a; intro a v64 hE hr64 hvb64
  replace hr64 := rd_takeR (f := bv) (ls := ls) (fun x hx => ((bv_length _).trans (ho_ls x hx))) (by first | omega | (simp; omega) | decide +kernel) hr64
  replace hM := hM.addPart 5 rfl hr64 hvb64; clear hr64
  refine s_call hE rfl Tryd.call21 (rnew_c k h _ (ls.take (min ls.length 40)) _ _ (hM.get 0 rfl) hl_k (ok_take ho_ls) (by first | decide | omega) (by rw [hll]; exact hm)) rfl ?_
  rintro e w6 ⟨b65, u65, rfl, hN⟩
  refine ⟨_, rfl, hN.sta0 _, ?_⟩; clear hE a; intro a hE
  replace hM : Mem _ _ w6 [_, _, _, _, _, _, _, _, _, _, _] := hM.call0 hN ⟨rfl, rfl, trivial⟩; clear hN
  refine s_move hE rfl rfl ?_; clear hE a; intro a hE
  refine s_extract hE rfl rfl rfl ?_; clear hE a; intro a hE
  refine s_extract hE rfl rfl rfl ?_; clear hE a; intro a hE
  refine s_assign hE rfl rfl ?_; clear hE a; intro a hE
  refine s_assign hE rfl rfl ?_; clear hE a; intro a hE
  refine q_nil ?_
  replace hE : Env a 206 [(2, _), (3, _), (4, _), (6, _), (7, _), (8, _), (9, _), (10, _), (38, _)] := hE.sel [2, 3, 4, 6, 7, 8, 9, 10, 38] rfl
  refine hK5 _ _ ?_
  refine wp_seq_k (fun K6 hK6 => ?_)
  refine wp_seq_k (fun K7 hK7 => ?_)
  refine wp_plain [true, true, true] rfl rfl ?_
  refine s_move hE rfl rfl ?_; clear hE a; intro a hE
  refine s_move hE rfl rfl ?_; clear hE a; intro a hE
  refine s_bin hE rfl rfl bin_neq rfl ?_; clear hE a; intro a hE
  replace hE := hE.cast 70 rfl (show _ = Value.bool false from (congrArg Value.bool (by decide)))
  refine q_nil ?_
  replace hE : Env a 206 [(2, _), (3, _), (4, _), (6, _), (7, _), (8, _), (9, _), (38, _), (70, _)] := hE.sel [2, 3, 4, 6, 7, 8, 9, 38, 70] rfl
  refine hK7 _ _ ?_
  refine wp_cond_false (hE.eval rfl) ?_
  refine wp_skip ?_
  refine hK6 _ _ ?_
  refine wp_seq_k (fun K8 hK8 => ?_)
  refine wp_seq_k (fun K9 hK9 => ?_)
  refine wp_plain [true, true] rfl rfl ?_
  refine s_move hE rfl rfl ?_; clear hE a; intro a hE
  refine s_bin hE rfl rfl bin_neq rfl ?_; clear hE a; intro a hE
  replace hE := hE.cast 72 rfl (show _ = Value.bool false from (congrArg Value.bool (by decide)))
  refine q_nil ?_
  replace hE : Env a 206 [(2, _), (3, _), (4, _), (6, _), (7, _), (8, _), (9, _), (38, _), (70, _), (72, _)] := hE.sel [2, 3, 4, 6, 7, 8, 9, 38, 70, 72] rfl
  refine hK9 _ _ ?_
  refine wp_cond_false (hE.eval rfl) ?_
  refine wp_skip ?_
  refine hK8 _ _ ?_
  refine wp_seq_k (fun K10 hK10 => ?_)
  refine wp_seq_k (fun K11 hK11 => ?_)
  refine wp_plain [true] rfl rfl ?_
  refine s_assign hE rfl rfl ?_; clear hE a; intro a hE
  refine q_nil ?_
  refine hK11 _ _ ?_
  refine wp_block ?_
  replace hM : Mem _ _ w6 [_, _, _, _, _, _, _, _, _, _, _] := hM.pick [4, 0, 1, 2, 3, 5, 6, 7, 8, 9, 10] rfl
  replace hM := Mem.ownRowsEq (f := bv) (ls := allT k (2 ^ h) (padL (2 ^ h) (ls.take (min ls.length 40)))) (ms := allT k (2 ^ h) (playP h (padL (2 ^ h) (ls.take (min ls.length 40))) acs 0)) hM rfl
  replace hM : Mem _ _ w6 [_, _, _, _, _, _, _, _, _, _, _] := hM.pick [2, 0, 1, 3, 4, 5, 6, 7, 8, 9, 10] rfl
  replace hM := Mem.ownRowsEq (f := bv) (ls := padL (2 ^ h) (ls.take (min ls.length 40))) (ms := playP h (padL (2 ^ h) (ls.take (min ls.length 40))) acs 0) hM rfl
  replace hM : Mem _ _ w6 [_, _, _, _, _, _, _, _, _, _, _] := hM.pick [2, 0, 3, 4, 1, 5, 6, 7, 8, 9, 10] rfl
  refine c_loop (fun (ja : Nat) a w' => ja ≤ min acs.length 20 ∧ Env a 206 [(2, va), (3, .pointer (some ⟨b3, 0, none⟩)), (4, .pointer (some ⟨b4, 0, none⟩)), (6, .bool false), (7, .pointer (some ⟨b51, 0, none⟩)), (8, .int .i64 0), (9, .pointer (some ⟨b65, 0, none⟩)), (11, .int .i64 ((ja : Nat) : Int)), (38, .bool false), (70, .bool false), (72, .bool false)] ∧ Mem w [] w' [blk b65 [bv k, [.int .i64 ((h : Nat) : Int)], [u65]] [32, 1, 1] 86, own u65 32 ((playP h (padL (2 ^ h) (ls.take (min ls.length 40))) acs ja).length) ((playP h (padL (2 ^ h) (ls.take (min ls.length 40))) acs ja).flatMap bv), rd v64 32 ((ls.take (min ls.length 40)).length) (c - 0) ((ls.take (min ls.length 40)).flatMap bv), blk b51 [bv k, [.int .i64 ((h : Nat) : Int)], [u51]] [32, 1, 1] 73, own u51 32 ((allT k (2 ^ h) (playP h (padL (2 ^ h) (ls.take (min ls.length 40))) acs ja)).length) ((allT k (2 ^ h) (playP h (padL (2 ^ h) (ls.take (min ls.length 40))) acs ja)).flatMap bv), rd v50 32 ((ls.take (min ls.length 40)).length) (c - 0) ((ls.take (min ls.length 40)).flatMap bv), blk b4 [[.int .i64 ((h : Nat) : Int)], [v]] [1, 1] 26, blk b3 [bv k] [32] 23, rd v 32 ls.length c (ls.flatMap bv), rd va 34 acs.length ca (acs.flatMap wcl), glb 0]) (fun ja => min acs.length 20 - ja) 0 ⟨Nat.zero_le _, hE.sel [2, 3, 4, 6, 7, 8, 9, 11, 38, 70, 72] rfl, hM⟩ ?_
  clear hE hM a; rintro ja a w7 ⟨hja, hE, hM⟩
  refine wp_seq_k (fun K12 hK12 => ?_)
  refine wp_seq_k (fun K13 hK13 => ?_)
  refine wp_plain [true, true, true, true, true, true, true, true] rfl rfl ?_
  refine s_move hE rfl rfl ?_; clear hE a; intro a hE
  refine s_move hE rfl rfl ?_; clear hE a; intro a hE
  refine s_len hE rfl Tryd.underlying27 (rd_slice (hM.get 9 rfl)) rfl ?_; clear hE a; intro a hE
  refine s_bin hE rfl rfl bin_lss rfl ?_; clear hE a; intro a hE
  refine s_move hE rfl rfl ?_; clear hE a; intro a hE
  refine hE.split 82 rfl (fun hb82 hE' => ?_) (fun hb82 hE' => ?_)
  · replace hE := hE'; clear hE'
    replace hb82 := of_decide_eq_true hb82
    replace hb82 : ja < acs.length := by omega
    refine g_yes hE rfl rfl ?_
    refine s_move hE rfl rfl ?_; clear hE a; intro a hE
    refine g_yes hE rfl rfl ?_
    refine s_bin hE rfl rfl bin_lss rfl ?_; clear hE a; intro a hE
    refine s_pickt hE rfl rfl rfl ?_; clear hE a; intro a hE
    refine q_nil ?_
    replace hE : Env a 206 [(2, _), (3, _), (4, _), (6, _), (7, _), (8, _), (9, _), (11, _), (38, _), (70, _), (72, _), (85, _)] := hE.sel [2, 3, 4, 6, 7, 8, 9, 11, 38, 70, 72, 85] rfl
    refine hK13 _ _ ?_
    refine hE.split 85 rfl (fun hb85 hE' => ?_) (fun hb85 hE' => ?_)
    · replace hE := hE'; clear hE'
      replace hb85 := of_decide_eq_true hb85
      replace hb85 : ja < 20 := by omega
      refine wp_cond_true (hE.eval rfl) ?_
      refine wp_skip ?_
      refine hK12 _ _ ?_
      refine wp_seq_k (fun K14 hK14 => ?_)
      refine wp_block ?_
      refine wp_seq_k (fun K15 hK15 => ?_)
      refine wp_plain [true, true, true, true, false, false] rfl rfl ?_
      refine s_move hE rfl rfl ?_; clear hE a; intro a hE
      refine s_move hE rfl rfl ?_; clear hE a; intro a hE
      refine s_indexRd (j := ja) hE rfl (hM.get 9 rfl) rfl slt27 (by first | rfl | omega) (by first | omega | (simp; omega) | (simp [*]; omega)) rfl ?_; clear hE a; intro a p90 hE hc90 hp90
      have hlj90 : ja < acs.length := (by first | omega | (simp; omega))
      have hok90 := ho_acs _ (getD_mem (d := ac0) hlj90)
      rw [flat_elem (d := ac0) (fun x hx => acl_len ((ho_acs x hx)).1) hlj90] at hc90
      refine s_loadAtN hE rfl hc90 (by rw [acl_len hok90.1]; exact row39) (by intro X h; cases h) rfl ?_; clear hE a; intro a hE
      replace hE := hE.cast 91 rfl (show _ = Value.agg ([[.int .i64 ((acs.getD ja ac0).1)], [.int .i64 ((acs.getD ja ac0).2.1)], bv ((acs.getD ja ac0).2.2)] : List (List Value)).flatten.toArray from rfl)
      refine s_alloc [1, 1, 32] hE hM zero39 rfl rfl ?_; clear hE a; intro a b12 w8 hE hM'
      clear hM; have hM := hM'; clear hM'
      refine s_storeSegs 0 3 (vss := [[.int .i64 ((acs.getD ja ac0).1)], [.int .i64 ((acs.getD ja ac0).2.1)], bv ((acs.getD ja ac0).2.2)]) hE rfl rfl hM rfl sz39 (by have hl_s2 : ((acs.getD ja ac0).2.2).length = 32 := hok90.1;  simp only [List.map_cons, List.map_nil, bv_length, List.length_cons, List.length_nil, List.take_succ_cons, List.take_zero, List.drop_zero, List.drop_succ_cons, hl_s2]) (by decide) rfl (one_fl ⟨one1 rfl, one1 rfl, bv_one _, trivial⟩) rfl (by intro X h; cases h) ?_; intro w9 hM'; clear hM; have hM := hM'; clear hM'
      simp only [List.take_zero, List.take_succ_cons, List.drop_zero, List.drop_succ_cons, List.take_nil, List.drop_nil, List.nil_append, List.append_nil, List.cons_append] at hM
      refine q_nil ?_
      replace hE : Env a 206 [(2, _), (3, _), (4, _), (6, _), (7, _), (8, _), (9, _), (11, _), (12, _), (38, _), (70, _), (72, _), (85, _)] := hE.sel [2, 3, 4, 6, 7, 8, 9, 11, 12, 38, 70, 72, 85] rfl
      refine hK15 _ _ ?_
      refine wp_seq_k (fun K16 hK16 => ?_)
      refine wp_seq_k (fun K17 hK17 => ?_)
      refine wp_plain [true, true, true, true] rfl rfl ?_
      refine s_fieldAddr hE rfl fo39_0 rfl ?_; clear hE a; intro a hE
      refine s_load1 hE rfl (hM.get 0 rfl) rfl one3 (by intro X h; cases h) rfl ?_; clear hE a; intro a hE
      refine s_bin hE rfl rfl (bin_rem (by decide) rfl) rfl ?_; clear hE a; intro a hE
      refine s_bin hE rfl rfl bin_eql rfl ?_; clear hE a; intro a hE
      refine q_nil ?_
      replace hE : Env a 206 [(2, _), (3, _), (4, _), (6, _), (7, _), (8, _), (9, _), (11, _), (12, _), (38, _), (70, _), (72, _), (85, _), (95, _)] := hE.sel [2, 3, 4, 6, 7, 8, 9, 11, 12, 38, 70, 72, 85, 95] rfl
      refine hK17 _ _ ?_
      refine hE.split 95 rfl (fun hb95 hE' => ?_) (fun hb95 hE' => ?_)
      · replace hE := hE'; clear hE'
        replace hb95 := of_decide_eq_true hb95
        refine wp_cond_true (hE.eval rfl) ?_
        refine wp_seq_k (fun K18 hK18 => ?_)
        refine wp_plain [true, true, true, true, true, false, true, true, true, true, true] rfl rfl ?_
        refine s_move hE rfl rfl ?_; clear hE a; intro a hE
        refine s_fieldAddr hE rfl fo39_1 rfl ?_; clear hE a; intro a hE
        refine s_load1 hE rfl (hM.get 0 rfl) rfl one3 (by intro X h; cases h) rfl ?_; clear hE a; intro a hE
        refine s_fieldAddr hE rfl fo39_2 rfl ?_; clear hE a; intro a hE
        refine s_loadN hE rfl (hM.get 0 rfl) row34 rfl (by intro X h; cases h) rfl ?_; clear hE a; intro a hE
        replace hM : Mem _ _ w9 [_, _, _, _, _, _, _, _, _, _, _, _] := hM.pick [5, 0, 1, 2, 3, 4, 6, 7, 8, 9, 10, 11] rfl
        refine s_call hE rfl Tryd.call11 (tsetI_c b51 h k ((acs.getD ja ac0).2.2) u51 (playP h (padL (2 ^ h) (ls.take (min ls.length 40))) acs ja) ((acs.getD ja ac0).2.1) _ (hM.get 11 rfl) (hM.get 5 rfl) (hM.get 0 rfl) (fun x hx => ((apart_of_get hM.apart (i := 0) (j := 5) rfl rfl (by decide)).1 x hx).1) (fun x hx => ((apart_of_get hM.apart (i := 0) (j := 11) rfl rfl (by decide)).1 x hx).2) hl_k ((playP_inv (h := h) (OkTs.pad (n := 2 ^ h) hoL) ho_acs (show ja ≤ acs.length by omega)).1) (by first | decide | omega) ((playP_inv (h := h) (OkTs.pad (n := 2 ^ h) hoL) ho_acs (show ja ≤ acs.length by omega)).2.trans (padL_length (by rw [hll]; exact hm))) hok90.1) rfl ?_
        rintro e w10 ⟨q102, rfl, hN⟩
        refine ⟨_, rfl, trivial, ?_⟩; clear hE a; intro a hE
        replace hM : Mem _ _ w10 [_, _, _, _, _, _, _, _, _, _, _, _, _] := hM.call1' hN ⟨rfl, rfl, trivial⟩; clear hN
        refine s_move hE rfl rfl ?_; clear hE a; intro a hE
        refine s_extract hE rfl rfl rfl ?_; clear hE a; intro a hE
        refine s_extract hE rfl rfl rfl ?_; clear hE a; intro a hE
        refine s_assign hE rfl rfl ?_; clear hE a; intro a hE
        refine s_assign hE rfl rfl ?_; clear hE a; intro a hE
        refine q_nil ?_
        replace hE : Env a 206 [(2, _), (3, _), (4, _), (6, _), (7, _), (8, _), (9, _), (11, _), (12, _), (13, _), (14, _), (38, _), (70, _), (72, _), (85, _), (95, _)] := hE.sel [2, 3, 4, 6, 7, 8, 9, 11, 12, 13, 14, 38, 70, 72, 85, 95] rfl
        refine hK18 _ _ ?_
        refine wp_seq_k (fun K19 hK19 => ?_)
        refine wp_plain [true, true, true, true, true, false, true, true, true, true, true] rfl rfl ?_
        refine s_move hE rfl rfl ?_; clear hE a; intro a hE
        refine s_fieldAddr hE rfl fo39_1 rfl ?_; clear hE a; intro a hE
        refine s_load1 hE rfl (hM.get 2 rfl) rfl one3 (by intro X h; cases h) rfl ?_; clear hE a; intro a hE
        refine s_fieldAddr hE rfl fo39_2 rfl ?_; clear hE a; intro a hE
        refine s_loadN hE rfl (hM.get 2 rfl) row34 rfl (by intro X h; cases h) rfl ?_; clear hE a; intro a hE
        replace hM : Mem _ _ w10 [_, _, _, _, _, _, _, _, _, _, _, _, _] := hM.pick [4, 0, 1, 2, 3, 5, 6, 7, 8, 9, 10, 11, 12] rfl
        refine s_call hE rfl Tryd.call22 (rsetI_c b65 h k ((acs.getD ja ac0).2.2) u65 (playP h (padL (2 ^ h) (ls.take (min ls.length 40))) acs ja) ((acs.getD ja ac0).2.1) _ (hM.get 4 rfl) (hM.get 0 rfl) (fun x hx => ((apart_of_get hM.apart (i := 0) (j := 4) rfl rfl (by decide)).1 x hx).1) hl_k ((playP_inv (h := h) (OkTs.pad (n := 2 ^ h) hoL) ho_acs (show ja ≤ acs.length by omega)).1) (by first | decide | omega) ((playP_inv (h := h) (OkTs.pad (n := 2 ^ h) hoL) ho_acs (show ja ≤ acs.length by omega)).2.trans (padL_length (by rw [hll]; exact hm))) hok90.1) rfl ?_
        rintro e w11 ⟨q111, rfl, hN⟩
        refine ⟨_, rfl, trivial, ?_⟩; clear hE a; intro a hE
        replace hM : Mem _ _ w11 [_, _, _, _, _, _, _, _, _, _, _, _, _, _] := hM.call1' hN ⟨rfl, rfl, trivial⟩; clear hN
        refine s_move hE rfl rfl ?_; clear hE a; intro a hE
        refine s_extract hE rfl rfl rfl ?_; clear hE a; intro a hE
        refine s_extract hE rfl rfl rfl ?_; clear hE a; intro a hE
        refine s_assign hE rfl rfl ?_; clear hE a; intro a hE
        refine s_assign hE rfl rfl ?_; clear hE a; intro a hE
        refine q_nil ?_
        replace hE : Env a 206 [(2, _), (3, _), (4, _), (6, _), (7, _), (8, _), (9, _), (11, _), (12, _), (13, _), (14, _), (15, _), (16, _), (38, _), (70, _), (72, _), (85, _), (95, _)] := hE.sel [2, 3, 4, 6, 7, 8, 9, 11, 12, 13, 14, 15, 16, 38, 70, 72, 85, 95] rfl
        refine hK19 _ _ ?_
        refine wp_seq_k (fun K20 hK20 => ?_)
        refine wp_plain [true, true, false, true, true, true, true, true, true] rfl rfl ?_
        refine s_move hE rfl rfl ?_; clear hE a; intro a hE
        refine s_move hE rfl rfl ?_; clear hE a; intro a hE
        obtain ⟨cq1, hq1⟩ := own_rd (hM.get 2 rfl)
        obtain ⟨cq2, hq2⟩ := own_rd (hM.get 0 rfl)
        refine s_call hE rfl Tryd.call19 (ints_c _ (chgZ k h (playP h (padL (2 ^ h) (ls.take (min ls.length 40))) acs ja) ((acs.getD ja ac0).2.1) ((acs.getD ja ac0).2.2)) _ _ (chgZ k h (playP h (padL (2 ^ h) (ls.take (min ls.length 40))) acs ja) ((acs.getD ja ac0).2.1) ((acs.getD ja ac0).2.2)) _ _ hq1 (chgZ_ok (by first | decide | omega)) hq2 (chgZ_ok (by first | decide | omega)) (by first | exact pathZ_le | exact chgZ_le (by omega) | exact proofZ_le (by omega) | omega)) rfl ?_
        rintro e w12 ⟨rfl, hN⟩
        refine ⟨_, rfl, trivial, ?_⟩; clear hE a; intro a hE
        replace hM : Mem _ _ w12 [_, _, _, _, _, _, _, _, _, _, _, _, _, _] := hM.call0 hN trivial; clear hN
        refine s_not hE rfl rfl ?_; clear hE a; intro a hE
        refine s_move hE rfl rfl ?_; clear hE a; intro a hE
        replace hE := hE.cast 118 rfl (show _ = Value.bool false from (congrArg Value.bool (by simp)))
        refine g_yes hE rfl rfl ?_
        refine s_move hE rfl rfl ?_; clear hE a; intro a hE
        refine g_yes hE rfl rfl ?_
        refine s_move hE rfl rfl ?_; clear hE a; intro a hE
        refine g_yes hE rfl rfl ?_
        refine s_bin hE rfl rfl bin_neq rfl ?_; clear hE a; intro a hE
        refine s_pickf hE rfl rfl rfl ?_; clear hE a; intro a hE
        refine q_nil ?_
        replace hE : Env a 206 [(2, _), (3, _), (4, _), (6, _), (7, _), (8, _), (9, _), (11, _), (12, _), (13, _), (14, _), (15, _), (16, _), (38, _), (70, _), (72, _), (85, _), (95, _), (122, _)] := hE.sel [2, 3, 4, 6, 7, 8, 9, 11, 12, 13, 14, 15, 16, 38, 70, 72, 85, 95, 122] rfl
        refine hK20 _ _ ?_
        replace hE := hE.cast 122 rfl (show _ = Value.bool false from (congrArg Value.bool (by simp)))
        refine wp_cond_false (hE.eval rfl) ?_
        refine wp_skip ?_
        refine hK16 _ _ ?_
        refine wp_seq_k (fun K21 hK21 => ?_)
        refine wp_plain [true, true, true, false, true, true, true, false, false, true] rfl rfl ?_
        refine s_move hE rfl rfl ?_; clear hE a; intro a hE
        refine s_fieldAddr hE rfl fo39_1 rfl ?_; clear hE a; intro a hE
        refine s_load1 hE rfl (hM.get 4 rfl) rfl one3 (by intro X h; cases h) rfl ?_; clear hE a; intro a hE
        obtain ⟨cs3, hs3⟩ := own_rd (hM.get 3 rfl)
        refine s_call hE rfl Tryd.call13 (ttagI_c b51 h k u51 (allT k (2 ^ h) (lvZ (playP h (padL (2 ^ h) (ls.take (min ls.length 40))) acs ja) h ((acs.getD ja ac0).2.1) ((acs.getD ja ac0).2.2))) cs3 ((acs.getD ja ac0).2.1) _ (hM.get 7 rfl) hs3 hl_k (OkTs.all (lvZ_ok ((playP_inv (h := h) (OkTs.pad (n := 2 ^ h) hoL) ho_acs (show ja ≤ acs.length by omega)).1) hok90.1)) (by first | decide | omega) (allT_len (Nat.le_of_eq (lvZ_len.trans ((playP_inv (h := h) (OkTs.pad (n := 2 ^ h) hoL) ho_acs (show ja ≤ acs.length by omega)).2.trans (padL_length (by rw [hll]; exact hm))))))) rfl ?_
        rintro e w13 ⟨rfl, hN⟩
        refine ⟨_, rfl, trivial, ?_⟩; clear hE a; intro a hE
        replace hM : Mem _ _ w13 [_, _, _, _, _, _, _, _, _, _, _, _, _, _] := hM.call0 hN trivial; clear hN
        refine s_move hE rfl rfl ?_; clear hE a; intro a hE
        refine s_extract hE rfl rfl rfl ?_; clear hE a; intro a hE
        refine s_extract hE rfl rfl rfl ?_; clear hE a; intro a hE
        refine s_alloc [32] hE hM zero34 rfl rfl ?_; clear hE a; intro a b17 w14 hE hM'
        clear hM; have hM := hM'; clear hM'
        refine s_storeSeg 0 hE rfl rfl hM rfl sz34 ((bv_length _).trans (tagZ_len (OkTs.all (lvZ_ok ((playP_inv (h := h) (OkTs.pad (n := 2 ^ h) hoL) ho_acs (show ja ≤ acs.length by omega)).1) hok90.1)))) (bv_one _) rfl ((bv_length _).trans (by first | (simp; done) | (simp [*]; done) | (simp; omega))) rfl (by intro X h; cases h) ?_; intro w15 hM'; clear hM; have hM := hM'; clear hM'
        simp only [List.set_cons_zero, List.set_cons_succ] at hM
        refine s_assign hE rfl rfl ?_; clear hE a; intro a hE
        refine q_nil ?_
        replace hE : Env a 206 [(2, _), (3, _), (4, _), (6, _), (7, _), (8, _), (9, _), (11, _), (12, _), (13, _), (14, _), (15, _), (16, _), (17, _), (18, _), (38, _), (70, _), (72, _), (85, _), (95, _), (122, _)] := hE.sel [2, 3, 4, 6, 7, 8, 9, 11, 12, 13, 14, 15, 16, 17, 18, 38, 70, 72, 85, 95, 122] rfl
        refine hK21 _ _ ?_
        refine wp_seq_k (fun K22 hK22 => ?_)
        refine wp_plain [true, true, true, false, true, true, true, false, false, true] rfl rfl ?_
        refine s_move hE rfl rfl ?_; clear hE a; intro a hE
        refine s_fieldAddr hE rfl fo39_1 rfl ?_; clear hE a; intro a hE
        refine s_load1 hE rfl (hM.get 5 rfl) rfl one3 (by intro X h; cases h) rfl ?_; clear hE a; intro a hE
        obtain ⟨cs4, hs4⟩ := own_rd (hM.get 2 rfl)
        refine s_call hE rfl Tryd.call23 (qtagI_c b65 h k u65 (lvZ (playP h (padL (2 ^ h) (ls.take (min ls.length 40))) acs ja) h ((acs.getD ja ac0).2.1) ((acs.getD ja ac0).2.2)) cs4 ((acs.getD ja ac0).2.1) _ (hM.get 6 rfl) hs4 hl_k (lvZ_ok ((playP_inv (h := h) (OkTs.pad (n := 2 ^ h) hoL) ho_acs (show ja ≤ acs.length by omega)).1) hok90.1) (by first | decide | omega) (lvZ_len.trans ((playP_inv (h := h) (OkTs.pad (n := 2 ^ h) hoL) ho_acs (show ja ≤ acs.length by omega)).2.trans (padL_length (by rw [hll]; exact hm))))) rfl ?_
        rintro e w16 ⟨rfl, hN⟩
        refine ⟨_, rfl, trivial, ?_⟩; clear hE a; intro a hE
        replace hM : Mem _ _ w16 [_, _, _, _, _, _, _, _, _, _, _, _, _, _, _] := hM.call0 hN trivial; clear hN
        refine s_move hE rfl rfl ?_; clear hE a; intro a hE
        refine s_extract hE rfl rfl rfl ?_; clear hE a; intro a hE
        refine s_extract hE rfl rfl rfl ?_; clear hE a; intro a hE
        refine s_alloc [32] hE hM zero34 rfl rfl ?_; clear hE a; intro a b19 w17 hE hM'
        clear hM; have hM := hM'; clear hM'
        refine s_storeSeg 0 hE rfl rfl hM rfl sz34 ((bv_length _).trans (tagZ_len (OkTs.all (lvZ_ok ((playP_inv (h := h) (OkTs.pad (n := 2 ^ h) hoL) ho_acs (show ja ≤ acs.length by omega)).1) hok90.1)))) (bv_one _) rfl ((bv_length _).trans (by first | (simp; done) | (simp [*]; done) | (simp; omega))) rfl (by intro X h; cases h) ?_; intro w18 hM'; clear hM; have hM := hM'; clear hM'
        simp only [List.set_cons_zero, List.set_cons_succ] at hM
        refine s_assign hE rfl rfl ?_; clear hE a; intro a hE
        refine q_nil ?_
        replace hE : Env a 206 [(2, _), (3, _), (4, _), (6, _), (7, _), (8, _), (9, _), (11, _), (12, _), (13, _), (14, _), (15, _), (16, _), (17, _), (18, _), (19, _), (20, _), (38, _), (70, _), (72, _), (85, _), (95, _), (122, _)] := hE.sel [2, 3, 4, 6, 7, 8, 9, 11, 12, 13, 14, 15, 16, 17, 18, 19, 20, 38, 70, 72, 85, 95, 122] rfl
        refine hK22 _ _ ?_
        refine wp_seq_k (fun K23 hK23 => ?_)
        refine wp_plain [true, true, true, false, true, true, true, false, false, true] rfl rfl ?_
        refine s_move hE rfl rfl ?_; clear hE a; intro a hE
        refine s_fieldAddr hE rfl fo39_1 rfl ?_; clear hE a; intro a hE
        refine s_load1 hE rfl (hM.get 6 rfl) rfl one3 (by intro X h; cases h) rfl ?_; clear hE a; intro a hE
        obtain ⟨cs5, hs5⟩ := own_rd (hM.get 5 rfl)
        refine s_call hE rfl Tryd.call24 (tnodeI_c b51 h k u51 (allT k (2 ^ h) (lvZ (playP h (padL (2 ^ h) (ls.take (min ls.length 40))) acs ja) h ((acs.getD ja ac0).2.1) ((acs.getD ja ac0).2.2))) cs5 ((acs.getD ja ac0).2.1) _ (hM.get 9 rfl) hs5 hl_k (OkTs.all (lvZ_ok ((playP_inv (h := h) (OkTs.pad (n := 2 ^ h) hoL) ho_acs (show ja ≤ acs.length by omega)).1) hok90.1)) (by first | decide | omega) (allT_len (Nat.le_of_eq (lvZ_len.trans ((playP_inv (h := h) (OkTs.pad (n := 2 ^ h) hoL) ho_acs (show ja ≤ acs.length by omega)).2.trans (padL_length (by rw [hll]; exact hm))))))) rfl ?_
        rintro e w19 ⟨rfl, hN⟩
        refine ⟨_, rfl, trivial, ?_⟩; clear hE a; intro a hE
        replace hM : Mem _ _ w19 [_, _, _, _, _, _, _, _, _, _, _, _, _, _, _, _] := hM.call0 hN trivial; clear hN
        refine s_move hE rfl rfl ?_; clear hE a; intro a hE
        refine s_extract hE rfl rfl rfl ?_; clear hE a; intro a hE
        refine s_extract hE rfl rfl rfl ?_; clear hE a; intro a hE
        refine s_alloc [64] hE hM zero52 rfl rfl ?_; clear hE a; intro a b21 w20 hE hM'
        clear hM; have hM := hM'; clear hM'
        refine s_storeSeg 0 hE rfl rfl hM rfl sz52 ((bv_length _).trans (nodeZ_len (OkTs.all (lvZ_ok ((playP_inv (h := h) (OkTs.pad (n := 2 ^ h) hoL) ho_acs (show ja ≤ acs.length by omega)).1) hok90.1)))) (bv_one _) rfl ((bv_length _).trans (by first | (simp; done) | (simp [*]; done) | (simp; omega))) rfl (by intro X h; cases h) ?_; intro w21 hM'; clear hM; have hM := hM'; clear hM'
        simp only [List.set_cons_zero, List.set_cons_succ] at hM
        refine s_assign hE rfl rfl ?_; clear hE a; intro a hE
        refine q_nil ?_
        replace hE : Env a 206 [(2, _), (3, _), (4, _), (6, _), (7, _), (8, _), (9, _), (11, _), (12, _), (13, _), (14, _), (15, _), (16, _), (17, _), (18, _), (19, _), (20, _), (21, _), (22, _), (38, _), (70, _), (72, _), (85, _), (95, _), (122, _)] := hE.sel [2, 3, 4, 6, 7, 8, 9, 11, 12, 13, 14, 15, 16, 17, 18, 19, 20, 21, 22, 38, 70, 72, 85, 95, 122] rfl
        refine hK23 _ _ ?_
        refine wp_seq_k (fun K24 hK24 => ?_)
        refine wp_plain [true, true, true, false, true, true, true, false, false, true] rfl rfl ?_
        refine s_move hE rfl rfl ?_; clear hE a; intro a hE
        refine s_fieldAddr hE rfl fo39_1 rfl ?_; clear hE a; intro a hE
        refine s_load1 hE rfl (hM.get 7 rfl) rfl one3 (by intro X h; cases h) rfl ?_; clear hE a; intro a hE
        obtain ⟨cs6, hs6⟩ := own_rd (hM.get 4 rfl)
        refine s_call hE rfl Tryd.call25 (rnodeI_c b65 h k u65 (lvZ (playP h (padL (2 ^ h) (ls.take (min ls.length 40))) acs ja) h ((acs.getD ja ac0).2.1) ((acs.getD ja ac0).2.2)) cs6 ((acs.getD ja ac0).2.1) _ (hM.get 8 rfl) hs6 hl_k (lvZ_ok ((playP_inv (h := h) (OkTs.pad (n := 2 ^ h) hoL) ho_acs (show ja ≤ acs.length by omega)).1) hok90.1) (by first | decide | omega) (lvZ_len.trans ((playP_inv (h := h) (OkTs.pad (n := 2 ^ h) hoL) ho_acs (show ja ≤ acs.length by omega)).2.trans (padL_length (by rw [hll]; exact hm))))) rfl ?_
        rintro e w22 ⟨rfl, hN⟩
        refine ⟨_, rfl, trivial, ?_⟩; clear hE a; intro a hE
        replace hM : Mem _ _ w22 [_, _, _, _, _, _, _, _, _, _, _, _, _, _, _, _, _] := hM.call0 hN trivial; clear hN
        refine s_move hE rfl rfl ?_; clear hE a; intro a hE
        refine s_extract hE rfl rfl rfl ?_; clear hE a; intro a hE
        refine s_extract hE rfl rfl rfl ?_; clear hE a; intro a hE
        refine s_alloc [64] hE hM zero52 rfl rfl ?_; clear hE a; intro a b23 w23 hE hM'
        clear hM; have hM := hM'; clear hM'
        refine s_storeSeg 0 hE rfl rfl hM rfl sz52 ((bv_length _).trans (nodeZ_len (OkTs.all (lvZ_ok ((playP_inv (h := h) (OkTs.pad (n := 2 ^ h) hoL) ho_acs (show ja ≤ acs.length by omega)).1) hok90.1)))) (bv_one _) rfl ((bv_length _).trans (by first | (simp; done) | (simp [*]; done) | (simp; omega))) rfl (by intro X h; cases h) ?_; intro w24 hM'; clear hM; have hM := hM'; clear hM'
        simp only [List.set_cons_zero, List.set_cons_succ] at hM
        refine s_assign hE rfl rfl ?_; clear hE a; intro a hE
        refine q_nil ?_
        replace hE : Env a 206 [(2, _), (3, _), (4, _), (6, _), (7, _), (8, _), (9, _), (11, _), (12, _), (13, _), (14, _), (15, _), (16, _), (17, _), (18, _), (19, _), (20, _), (21, _), (22, _), (23, _), (24, _), (38, _), (70, _), (72, _), (85, _), (95, _), (122, _)] := hE.sel [2, 3, 4, 6, 7, 8, 9, 11, 12, 13, 14, 15, 16, 17, 18, 19, 20, 21, 22, 23, 24, 38, 70, 72, 85, 95, 122] rfl
        refine hK24 _ _ ?_
        refine wp_seq_k (fun K25 hK25 => ?_)
        refine wp_plain [true, true, true, false, true, true, true, true, true] rfl rfl ?_
        refine s_move hE rfl rfl ?_; clear hE a; intro a hE
        refine s_fieldAddr hE rfl fo39_1 rfl ?_; clear hE a; intro a hE
        refine s_load1 hE rfl (hM.get 8 rfl) rfl one3 (by intro X h; cases h) rfl ?_; clear hE a; intro a hE
        obtain ⟨cs7, hs7⟩ := own_rd (hM.get 7 rfl)
        refine s_call hE rfl Tryd.call14 (tproofI_c b51 h k u51 (allT k (2 ^ h) (lvZ (playP h (padL (2 ^ h) (ls.take (min ls.length 40))) acs ja) h ((acs.getD ja ac0).2.1) ((acs.getD ja ac0).2.2))) cs7 ((acs.getD ja ac0).2.1) _ (hM.get 11 rfl) hs7 hl_k (OkTs.all (lvZ_ok ((playP_inv (h := h) (OkTs.pad (n := 2 ^ h) hoL) ho_acs (show ja ≤ acs.length by omega)).1) hok90.1)) (by first | decide | omega) (allT_len (Nat.le_of_eq (lvZ_len.trans ((playP_inv (h := h) (OkTs.pad (n := 2 ^ h) hoL) ho_acs (show ja ≤ acs.length by omega)).2.trans (padL_length (by rw [hll]; exact hm))))))) rfl ?_
        rintro e w25 ⟨v155, rfl, hN⟩
        refine ⟨_, rfl, trivial, ?_⟩; clear hE a; intro a hE
        replace hM : Mem _ _ w25 [_, _, _, _, _, _, _, _, _, _, _, _, _, _, _, _, _, _, _] := hM.call0 hN ⟨rfl, trivial⟩; clear hN
        refine s_move hE rfl rfl ?_; clear hE a; intro a hE
        refine s_extract hE rfl rfl rfl ?_; clear hE a; intro a hE
        refine s_extract hE rfl rfl rfl ?_; clear hE a; intro a hE
        refine s_assign hE rfl rfl ?_; clear hE a; intro a hE
        refine s_assign hE rfl rfl ?_; clear hE a; intro a hE
        refine q_nil ?_
        replace hE : Env a 206 [(2, _), (3, _), (4, _), (6, _), (7, _), (8, _), (9, _), (11, _), (12, _), (13, _), (14, _), (15, _), (16, _), (17, _), (18, _), (19, _), (20, _), (21, _), (22, _), (23, _), (24, _), (25, _), (26, _), (38, _), (70, _), (72, _), (85, _), (95, _), (122, _)] := hE.sel [2, 3, 4, 6, 7, 8, 9, 11, 12, 13, 14, 15, 16, 17, 18, 19, 20, 21, 22, 23, 24, 25, 26, 38, 70, 72, 85, 95, 122] rfl
        refine hK25 _ _ ?_
        refine wp_seq_k (fun K26 hK26 => ?_)
        refine wp_plain [true, true, true, false, true, true, true, true, true] rfl rfl ?_
        refine s_move hE rfl rfl ?_; clear hE a; intro a hE
        refine s_fieldAddr hE rfl fo39_1 rfl ?_; clear hE a; intro a hE
        refine s_load1 hE rfl (hM.get 9 rfl) rfl one3 (by intro X h; cases h) rfl ?_; clear hE a; intro a hE
        obtain ⟨cs8, hs8⟩ := own_rd (hM.get 6 rfl)
        refine s_call hE rfl Tryd.call26 (rproofI_c b65 h k u65 (lvZ (playP h (padL (2 ^ h) (ls.take (min ls.length 40))) acs ja) h ((acs.getD ja ac0).2.1) ((acs.getD ja ac0).2.2)) cs8 ((acs.getD ja ac0).2.1) _ (hM.get 10 rfl) hs8 hl_k (lvZ_ok ((playP_inv (h := h) (OkTs.pad (n := 2 ^ h) hoL) ho_acs (show ja ≤ acs.length by omega)).1) hok90.1) (by first | decide | omega) (lvZ_len.trans ((playP_inv (h := h) (OkTs.pad (n := 2 ^ h) hoL) ho_acs (show ja ≤ acs.length by omega)).2.trans (padL_length (by rw [hll]; exact hm))))) rfl ?_
        rintro e w26 ⟨v162, rfl, hN⟩
        refine ⟨_, rfl, trivial, ?_⟩; clear hE a; intro a hE
        replace hM : Mem _ _ w26 [_, _, _, _, _, _, _, _, _, _, _, _, _, _, _, _, _, _, _, _] := hM.call0 hN ⟨rfl, trivial⟩; clear hN
        refine s_move hE rfl rfl ?_; clear hE a; intro a hE
        refine s_extract hE rfl rfl rfl ?_; clear hE a; intro a hE
        refine s_extract hE rfl rfl rfl ?_; clear hE a; intro a hE
        refine s_assign hE rfl rfl ?_; clear hE a; intro a hE
        refine s_assign hE rfl rfl ?_; clear hE a; intro a hE
        refine q_nil ?_
        replace hE : Env a 206 [(2, _), (3, _), (4, _), (6, _), (7, _), (8, _), (9, _), (11, _), (12, _), (13, _), (14, _), (15, _), (16, _), (17, _), (18, _), (19, _), (20, _), (21, _), (22, _), (23, _), (24, _), (25, _), (26, _), (27, _), (28, _), (38, _), (70, _), (72, _), (85, _), (95, _), (122, _)] := hE.sel [2, 3, 4, 6, 7, 8, 9, 11, 12, 13, 14, 15, 16, 17, 18, 19, 20, 21, 22, 23, 24, 25, 26, 27, 28, 38, 70, 72, 85, 95, 122] rfl
        refine hK26 _ _ ?_
        refine wp_seq_k (fun K27 hK27 => ?_)
        refine wp_plain [true, false, true, true, true, false, false, true] rfl rfl ?_
        refine s_move hE rfl rfl ?_; clear hE a; intro a hE
        obtain ⟨cs9, hs9⟩ := own_rd (hM.get 7 rfl)
        refine s_call hE rfl Tryd.call23 (qtagI_c b65 h k u65 (lvZ (playP h (padL (2 ^ h) (ls.take (min ls.length 40))) acs ja) h ((acs.getD ja ac0).2.1) ((acs.getD ja ac0).2.2)) cs9 1 _ (hM.get 11 rfl) hs9 hl_k (lvZ_ok ((playP_inv (h := h) (OkTs.pad (n := 2 ^ h) hoL) ho_acs (show ja ≤ acs.length by omega)).1) hok90.1) (by first | decide | omega) (lvZ_len.trans ((playP_inv (h := h) (OkTs.pad (n := 2 ^ h) hoL) ho_acs (show ja ≤ acs.length by omega)).2.trans (padL_length (by rw [hll]; exact hm))))) rfl ?_
        rintro e w27 ⟨rfl, hN⟩
        refine ⟨_, rfl, trivial, ?_⟩; clear hE a; intro a hE
        replace hM : Mem _ _ w27 [_, _, _, _, _, _, _, _, _, _, _, _, _, _, _, _, _, _, _, _] := hM.call0 hN trivial; clear hN
        refine s_move hE rfl rfl ?_; clear hE a; intro a hE
        refine s_extract hE rfl rfl rfl ?_; clear hE a; intro a hE
        refine s_extract hE rfl rfl rfl ?_; clear hE a; intro a hE
        refine s_alloc [32] hE hM zero34 rfl rfl ?_; clear hE a; intro a b29 w28 hE hM'
        clear hM; have hM := hM'; clear hM'
        refine s_storeSeg 0 hE rfl rfl hM rfl sz34 ((bv_length _).trans (tagZ_len (OkTs.all (lvZ_ok ((playP_inv (h := h) (OkTs.pad (n := 2 ^ h) hoL) ho_acs (show ja ≤ acs.length by omega)).1) hok90.1)))) (bv_one _) rfl ((bv_length _).trans (by first | (simp; done) | (simp [*]; done) | (simp; omega))) rfl (by intro X h; cases h) ?_; intro w29 hM'; clear hM; have hM := hM'; clear hM'
        simp only [List.set_cons_zero, List.set_cons_succ] at hM
        refine s_assign hE rfl rfl ?_; clear hE a; intro a hE
        refine q_nil ?_
        replace hE : Env a 206 [(2, _), (3, _), (4, _), (6, _), (7, _), (8, _), (9, _), (11, _), (12, _), (13, _), (14, _), (15, _), (16, _), (17, _), (18, _), (19, _), (20, _), (21, _), (22, _), (23, _), (24, _), (25, _), (26, _), (27, _), (28, _), (29, _), (38, _), (70, _), (72, _), (85, _), (95, _), (122, _)] := hE.sel [2, 3, 4, 6, 7, 8, 9, 11, 12, 13, 14, 15, 16, 17, 18, 19, 20, 21, 22, 23, 24, 25, 26, 27, 28, 29, 38, 70, 72, 85, 95, 122] rfl
        refine hK27 _ _ ?_
        refine wp_seq_k (fun K28 hK28 => ?_)
        refine wp_drawnM hM (by kernel_rfl) (fun _ => False) [(0, true), (1, true), (2, true), (3, true), (4, true), (5, true), (6, true), (7, true), (8, true), (9, true), (10, true), (11, true), (12, true), (13, true), (14, true), (15, true), (16, true), (17, true), (18, true), (19, true), (20, true), (21, false), (22, true), (23, true), (24, true), (25, true), (26, true), (27, true), (28, true), (29, true), (30, true), (32, true), (31, false), (33, true), (34, true)] [(21, [(22, 21), (23, 22), (24, 21), (25, 24), (26, 24), (27, 24), (28, 24), (29, 24), (30, 29), (32, 29), (31, 29), (33, 32), (34, 33)]), (31, [(33, 31), (34, 33)])] (by kernel_rfl) rfl ?_
        intro w30 hM' hww30; clear hM; have hM := hM'; clear hM'
        refine s_loadN hE rfl (hM.get 6 rfl) row34 rfl (by intro X h; cases h; simp) rfl ?_; clear hE a; intro a hE
        refine s_loadN hE rfl (hM.get 5 rfl) row34 rfl (by intro X h; cases h; simp) rfl ?_; clear hE a; intro a hE
        refine s_bin hE rfl rfl (eqa34 (tagZ_len (OkTs.all (lvZ_ok ((playP_inv (h := h) (OkTs.pad (n := 2 ^ h) hoL) ho_acs (show ja ≤ acs.length by omega)).1) hok90.1))) (tagZ_len (OkTs.all (lvZ_ok ((playP_inv (h := h) (OkTs.pad (n := 2 ^ h) hoL) ho_acs (show ja ≤ acs.length by omega)).1) hok90.1)))).2 rfl ?_; clear hE a; intro a hE
        refine s_move hE rfl rfl ?_; clear hE a; intro a hE
        replace hE := hE.cast 173 rfl (show _ = Value.bool false from (congrArg Value.bool (by simp)))
        refine g_yes hE rfl rfl ?_
        refine s_move hE rfl rfl ?_; clear hE a; intro a hE
        refine g_yes hE rfl rfl ?_
        refine s_move hE rfl rfl ?_; clear hE a; intro a hE
        refine g_yes hE rfl rfl ?_
        refine s_bin hE rfl rfl bin_neq rfl ?_; clear hE a; intro a hE
        refine s_pickf hE rfl rfl rfl ?_; clear hE a; intro a hE
        refine s_move hE rfl rfl ?_; clear hE a; intro a hE
        replace hE := hE.cast 178 rfl (show _ = Value.bool false from (congrArg Value.bool (by simp)))
        refine g_yes hE rfl rfl ?_
        refine s_loadN hE rfl (hM.get 4 rfl) row52 rfl (by intro X h; cases h; simp) rfl ?_; clear hE a; intro a hE
        refine g_yes hE rfl rfl ?_
        refine s_loadN hE rfl (hM.get 3 rfl) row52 rfl (by intro X h; cases h; simp) rfl ?_; clear hE a; intro a hE
        refine g_yes hE rfl rfl ?_
        refine s_bin hE rfl rfl (eqa52 (nodeZ_len (OkTs.all (lvZ_ok ((playP_inv (h := h) (OkTs.pad (n := 2 ^ h) hoL) ho_acs (show ja ≤ acs.length by omega)).1) hok90.1))) (nodeZ_len (OkTs.all (lvZ_ok ((playP_inv (h := h) (OkTs.pad (n := 2 ^ h) hoL) ho_acs (show ja ≤ acs.length by omega)).1) hok90.1)))).2 rfl ?_; clear hE a; intro a hE
        refine s_pickf hE rfl rfl rfl ?_; clear hE a; intro a hE
        refine s_move hE rfl rfl ?_; clear hE a; intro a hE
        replace hE := hE.cast 183 rfl (show _ = Value.bool false from (congrArg Value.bool (by simp)))
        refine g_yes hE rfl rfl ?_
        refine s_move hE rfl rfl ?_; clear hE a; intro a hE
        refine g_yes hE rfl rfl ?_
        refine s_move hE rfl rfl ?_; clear hE a; intro a hE
        refine g_yes hE rfl rfl ?_
        refine s_bin hE rfl rfl bin_neq rfl ?_; clear hE a; intro a hE
        refine s_pickf hE rfl rfl rfl ?_; clear hE a; intro a hE
        refine s_move hE rfl rfl ?_; clear hE a; intro a hE
        replace hE := hE.cast 188 rfl (show _ = Value.bool false from (congrArg Value.bool (by simp)))
        refine g_yes hE rfl rfl ?_
        refine s_move hE rfl rfl ?_; clear hE a; intro a hE
        refine g_yes hE rfl rfl ?_
        refine s_move hE rfl rfl ?_; clear hE a; intro a hE
        refine g_yes hE rfl rfl ?_
        obtain ⟨cq10, hq10⟩ := own_rd (hM.get 2 rfl)
        obtain ⟨cq11, hq11⟩ := own_rd (hM.get 1 rfl)
        refine s_call hE rfl Tryd.call27 (same_c _ (proofZ (allT k (2 ^ h) (lvZ (playP h (padL (2 ^ h) (ls.take (min ls.length 40))) acs ja) h ((acs.getD ja ac0).2.1) ((acs.getD ja ac0).2.2))) h ((acs.getD ja ac0).2.1)) _ _ (proofZ (allT k (2 ^ h) (lvZ (playP h (padL (2 ^ h) (ls.take (min ls.length 40))) acs ja) h ((acs.getD ja ac0).2.1) ((acs.getD ja ac0).2.2))) h ((acs.getD ja ac0).2.1)) _ _ hq10 (proofZ_ok (OkTs.all (lvZ_ok ((playP_inv (h := h) (OkTs.pad (n := 2 ^ h) hoL) ho_acs (show ja ≤ acs.length by omega)).1) hok90.1))) hq11 (proofZ_ok (OkTs.all (lvZ_ok ((playP_inv (h := h) (OkTs.pad (n := 2 ^ h) hoL) ho_acs (show ja ≤ acs.length by omega)).1) hok90.1))) (by first | exact pathZ_le | exact chgZ_le (by omega) | exact proofZ_le (by omega) | omega)) rfl ?_
        rintro e w31 ⟨rfl, hN⟩
        refine ⟨_, rfl, hN.sta0 _, ?_⟩; clear hE a; intro a hE
        replace hM : Mem _ _ w31 [_, _, _, _, _, _, _, _, _, _, _, _, _, _, _, _, _, _, _, _, _] := hM.call0 hN trivial; clear hN
        refine g_yes hE rfl rfl ?_
        refine s_not hE rfl rfl ?_; clear hE a; intro a hE
        refine s_pickf hE rfl rfl rfl ?_; clear hE a; intro a hE
        refine s_move hE rfl rfl ?_; clear hE a; intro a hE
        replace hE := hE.cast 194 rfl (show _ = Value.bool false from (congrArg Value.bool (by simp)))
        refine g_yes hE rfl rfl ?_
        refine s_move hE rfl rfl ?_; clear hE a; intro a hE
        refine g_yes hE rfl rfl ?_
        refine s_move hE rfl rfl ?_; clear hE a; intro a hE
        refine g_yes hE rfl rfl ?_
        refine s_bin hE rfl rfl bin_neq rfl ?_; clear hE a; intro a hE
        refine s_pickf hE rfl rfl rfl ?_; clear hE a; intro a hE
        refine s_move hE rfl rfl ?_; clear hE a; intro a hE
        replace hE := hE.cast 199 rfl (show _ = Value.bool false from (congrArg Value.bool (by simp)))
        refine g_yes hE rfl rfl ?_
        refine s_move hE rfl rfl ?_; clear hE a; intro a hE
        refine g_yes hE rfl rfl ?_
        refine s_loadN hE rfl (hM.get 0 rfl) row34 rfl (by intro X h; cases h; simp) rfl ?_; clear hE a; intro a hE
        refine g_yes hE rfl rfl ?_
        obtain ⟨cs12, hs12⟩ := own_rd (hM.get 10 rfl)
        refine s_call hE rfl Tryd.call12 (ttop_c b51 h k u51 (allT k (2 ^ h) (lvZ (playP h (padL (2 ^ h) (ls.take (min ls.length 40))) acs ja) h ((acs.getD ja ac0).2.1) ((acs.getD ja ac0).2.2))) cs12 _ (hM.get 14 rfl) hs12 hl_k (OkTs.all (lvZ_ok ((playP_inv (h := h) (OkTs.pad (n := 2 ^ h) hoL) ho_acs (show ja ≤ acs.length by omega)).1) hok90.1)) (by first | decide | omega) (allT_len (Nat.le_of_eq (lvZ_len.trans ((playP_inv (h := h) (OkTs.pad (n := 2 ^ h) hoL) ho_acs (show ja ≤ acs.length by omega)).2.trans (padL_length (by rw [hll]; exact hm))))))) rfl ?_
        rintro e w32 ⟨rfl, hN⟩
        refine ⟨_, rfl, hN.sta0 _, ?_⟩; clear hE a; intro a hE
        replace hM : Mem _ _ w32 [_, _, _, _, _, _, _, _, _, _, _, _, _, _, _, _, _, _, _, _, _] := hM.call0 hN trivial; clear hN
        refine g_yes hE rfl rfl ?_
        refine s_bin hE rfl rfl (eqa34 (OkTs.get (OkTs.all (lvZ_ok ((playP_inv (h := h) (OkTs.pad (n := 2 ^ h) hoL) ho_acs (show ja ≤ acs.length by omega)).1) hok90.1)) 1) (tagZ_len (OkTs.all (lvZ_ok ((playP_inv (h := h) (OkTs.pad (n := 2 ^ h) hoL) ho_acs (show ja ≤ acs.length by omega)).1) hok90.1)))).2 rfl ?_; clear hE a; intro a hE
        refine s_pickf hE rfl rfl rfl ?_; clear hE a; intro a hE
        refine q_nil ?_
        replace hE : Env a 206 [(2, _), (3, _), (4, _), (6, _), (7, _), (8, _), (9, _), (11, _), (12, _), (13, _), (14, _), (15, _), (16, _), (17, _), (18, _), (19, _), (20, _), (21, _), (22, _), (23, _), (24, _), (25, _), (26, _), (27, _), (28, _), (29, _), (38, _), (70, _), (72, _), (85, _), (95, _), (122, _), (204, _)] := hE.sel [2, 3, 4, 6, 7, 8, 9, 11, 12, 13, 14, 15, 16, 17, 18, 19, 20, 21, 22, 23, 24, 25, 26, 27, 28, 29, 38, 70, 72, 85, 95, 122, 204] rfl
        refine hK28 _ _ ?_
        replace hE := hE.cast 204 rfl (show _ = Value.bool false from (congrArg Value.bool (by rw [tagZ_one (by omega)]; simp)))
        refine wp_cond_false (hE.eval rfl) ?_
        refine wp_skip ?_
        refine q_block_n ?_
        refine hK14 _ _ ?_
        refine wp_plain [true, true, true] rfl rfl ?_
        refine s_move hE rfl rfl ?_; clear hE a; intro a hE
        refine s_bin hE rfl rfl (show Bin _ _ _ _ _ (.int .i64 ((ja + 1 : Nat) : Int)) from bin_add (by rw [wrap_i64 (by omega) (by omega)]; omega)) rfl ?_; clear hE a; intro a hE
        refine s_assign hE rfl rfl ?_; clear hE a; intro a hE
        refine q_nil ?_
        replace hE : Env a 206 [(2, _), (3, _), (4, _), (6, _), (7, _), (8, _), (9, _), (11, _), (12, _), (13, _), (14, _), (15, _), (16, _), (17, _), (18, _), (19, _), (20, _), (21, _), (22, _), (23, _), (24, _), (25, _), (26, _), (27, _), (28, _), (29, _), (38, _), (70, _), (72, _), (85, _), (95, _), (122, _), (204, _)] := hE.sel [2, 3, 4, 6, 7, 8, 9, 11, 12, 13, 14, 15, 16, 17, 18, 19, 20, 21, 22, 23, 24, 25, 26, 27, 28, 29, 38, 70, 72, 85, 95, 122, 204] rfl
        replace hE := hE.cast 11 rfl (show _ = Value.int .i64 (((ja + 1) : Nat) : Int) from (congrArg _ (by omega)))
        replace hM : Mem _ _ w32 [_, _, _, _, _, _, _, _, _, _, _, _, _, _, _, _, _, _, _, _, _] := hM.pick [10, 0, 1, 2, 3, 4, 5, 6, 7, 8, 9, 11, 12, 13, 14, 15, 16, 17, 18, 19, 20] rfl
        replace hM := Mem.ownRowsEq (f := bv) (ls := allT k (2 ^ h) (lvZ (playP h (padL (2 ^ h) (ls.take (min ls.length 40))) acs ja) h ((acs.getD ja ac0).2.1) ((acs.getD ja ac0).2.2))) (ms := allT k (2 ^ h) (playP h (padL (2 ^ h) (ls.take (min ls.length 40))) acs (ja + 1))) hM (by rw [playP_succ (by assumption), stepP, if_pos hb95])
        replace hM : Mem _ _ w32 [_, _, _, _, _, _, _, _, _, _, _, _, _, _, _, _, _, _, _, _, _] := hM.pick [9, 0, 1, 2, 3, 4, 5, 6, 7, 8, 10, 11, 12, 13, 14, 15, 16, 17, 18, 19, 20] rfl
        replace hM := Mem.ownRowsEq (f := bv) (ls := lvZ (playP h (padL (2 ^ h) (ls.take (min ls.length 40))) acs ja) h ((acs.getD ja ac0).2.1) ((acs.getD ja ac0).2.2)) (ms := playP h (padL (2 ^ h) (ls.take (min ls.length 40))) acs (ja + 1)) hM (by rw [playP_succ (by assumption), stepP, if_pos hb95])
        replace hM : Mem _ _ w32 [_, _, _, _, _, _, _, _, _, _, _] := hM.pick [0, 1, 12, 13, 14, 15, 16, 17, 18, 19, 20] rfl
        replace hM : Mem _ _ w32 [_, _, _, _, _, _, _, _, _, _, _] := hM.pick [2, 0, 3, 4, 1, 5, 6, 7, 8, 9, 10] rfl
        exact ⟨ja + 1, ⟨by omega, hE.sel [2, 3, 4, 6, 7, 8, 9, 11, 38, 70, 72] rfl, hM⟩, by omega⟩
      · replace hE := hE'; clear hE'
        replace hb95 := of_decide_eq_false hb95
        refine wp_cond_false (hE.eval rfl) ?_
        refine wp_skip ?_
        refine hK16 _ _ ?_
        refine wp_seq_k (fun K18 hK18 => ?_)
        refine wp_plain [true, true, true, false, true, true, true, false, false, true] rfl rfl ?_
        refine s_move hE rfl rfl ?_; clear hE a; intro a hE
        refine s_fieldAddr hE rfl fo39_1 rfl ?_; clear hE a; intro a hE
        refine s_load1 hE rfl (hM.get 0 rfl) rfl one3 (by intro X h; cases h) rfl ?_; clear hE a; intro a hE
        obtain ⟨cs13, hs13⟩ := own_rd (hM.get 5 rfl)
        refine s_call hE rfl Tryd.call13 (ttagI_c b51 h k u51 (allT k (2 ^ h) (playP h (padL (2 ^ h) (ls.take (min ls.length 40))) acs ja)) cs13 ((acs.getD ja ac0).2.1) _ (hM.get 4 rfl) hs13 hl_k (OkTs.all ((playP_inv (h := h) (OkTs.pad (n := 2 ^ h) hoL) ho_acs (show ja ≤ acs.length by omega)).1)) (by first | decide | omega) (allT_len (Nat.le_of_eq ((playP_inv (h := h) (OkTs.pad (n := 2 ^ h) hoL) ho_acs (show ja ≤ acs.length by omega)).2.trans (padL_length (by rw [hll]; exact hm)))))) rfl ?_
        rintro e w10 ⟨rfl, hN⟩
        refine ⟨_, rfl, trivial, ?_⟩; clear hE a; intro a hE
        replace hM : Mem _ _ w10 [_, _, _, _, _, _, _, _, _, _, _, _] := hM.call0 hN trivial; clear hN
        refine s_move hE rfl rfl ?_; clear hE a; intro a hE
        refine s_extract hE rfl rfl rfl ?_; clear hE a; intro a hE
        refine s_extract hE rfl rfl rfl ?_; clear hE a; intro a hE
        refine s_alloc [32] hE hM zero34 rfl rfl ?_; clear hE a; intro a b17 w11 hE hM'
        clear hM; have hM := hM'; clear hM'
        refine s_storeSeg 0 hE rfl rfl hM rfl sz34 ((bv_length _).trans (tagZ_len (OkTs.all ((playP_inv (h := h) (OkTs.pad (n := 2 ^ h) hoL) ho_acs (show ja ≤ acs.length by omega)).1)))) (bv_one _) rfl ((bv_length _).trans (by first | (simp; done) | (simp [*]; done) | (simp; omega))) rfl (by intro X h; cases h) ?_; intro w12 hM'; clear hM; have hM := hM'; clear hM'
        simp only [List.set_cons_zero, List.set_cons_succ] at hM
        refine s_assign hE rfl rfl ?_; clear hE a; intro a hE
        refine q_nil ?_
        replace hE : Env a 206 [(2, _), (3, _), (4, _), (6, _), (7, _), (8, _), (9, _), (11, _), (12, _), (17, _), (18, _), (38, _), (70, _), (72, _), (85, _), (95, _)] := hE.sel [2, 3, 4, 6, 7, 8, 9, 11, 12, 17, 18, 38, 70, 72, 85, 95] rfl
        refine hK18 _ _ ?_
        refine wp_seq_k (fun K19 hK19 => ?_)
        refine wp_plain [true, true, true, false, true, true, true, false, false, true] rfl rfl ?_
        refine s_move hE rfl rfl ?_; clear hE a; intro a hE
        refine s_fieldAddr hE rfl fo39_1 rfl ?_; clear hE a; intro a hE
        refine s_load1 hE rfl (hM.get 1 rfl) rfl one3 (by intro X h; cases h) rfl ?_; clear hE a; intro a hE
        obtain ⟨cs14, hs14⟩ := own_rd (hM.get 3 rfl)
        refine s_call hE rfl Tryd.call23 (qtagI_c b65 h k u65 (playP h (padL (2 ^ h) (ls.take (min ls.length 40))) acs ja) cs14 ((acs.getD ja ac0).2.1) _ (hM.get 2 rfl) hs14 hl_k ((playP_inv (h := h) (OkTs.pad (n := 2 ^ h) hoL) ho_acs (show ja ≤ acs.length by omega)).1) (by first | decide | omega) ((playP_inv (h := h) (OkTs.pad (n := 2 ^ h) hoL) ho_acs (show ja ≤ acs.length by omega)).2.trans (padL_length (by rw [hll]; exact hm)))) rfl ?_
        rintro e w13 ⟨rfl, hN⟩
        refine ⟨_, rfl, trivial, ?_⟩; clear hE a; intro a hE
        replace hM : Mem _ _ w13 [_, _, _, _, _, _, _, _, _, _, _, _, _] := hM.call0 hN trivial; clear hN
        refine s_move hE rfl rfl ?_; clear hE a; intro a hE
        refine s_extract hE rfl rfl rfl ?_; clear hE a; intro a hE
        refine s_extract hE rfl rfl rfl ?_; clear hE a; intro a hE
        refine s_alloc [32] hE hM zero34 rfl rfl ?_; clear hE a; intro a b19 w14 hE hM'
        clear hM; have hM := hM'; clear hM'
        refine s_storeSeg 0 hE rfl rfl hM rfl sz34 ((bv_length _).trans (tagZ_len (OkTs.all ((playP_inv (h := h) (OkTs.pad (n := 2 ^ h) hoL) ho_acs (show ja ≤ acs.length by omega)).1)))) (bv_one _) rfl ((bv_length _).trans (by first | (simp; done) | (simp [*]; done) | (simp; omega))) rfl (by intro X h; cases h) ?_; intro w15 hM'; clear hM; have hM := hM'; clear hM'
        simp only [List.set_cons_zero, List.set_cons_succ] at hM
        refine s_assign hE rfl rfl ?_; clear hE a; intro a hE
        refine q_nil ?_
        replace hE : Env a 206 [(2, _), (3, _), (4, _), (6, _), (7, _), (8, _), (9, _), (11, _), (12, _), (17, _), (18, _), (19, _), (20, _), (38, _), (70, _), (72, _), (85, _), (95, _)] := hE.sel [2, 3, 4, 6, 7, 8, 9, 11, 12, 17, 18, 19, 20, 38, 70, 72, 85, 95] rfl
        refine hK19 _ _ ?_
        refine wp_seq_k (fun K20 hK20 => ?_)
        refine wp_plain [true, true, true, false, true, true, true, false, false, true] rfl rfl ?_
        refine s_move hE rfl rfl ?_; clear hE a; intro a hE
        refine s_fieldAddr hE rfl fo39_1 rfl ?_; clear hE a; intro a hE
        refine s_load1 hE rfl (hM.get 2 rfl) rfl one3 (by intro X h; cases h) rfl ?_; clear hE a; intro a hE
        obtain ⟨cs15, hs15⟩ := own_rd (hM.get 7 rfl)
        refine s_call hE rfl Tryd.call24 (tnodeI_c b51 h k u51 (allT k (2 ^ h) (playP h (padL (2 ^ h) (ls.take (min ls.length 40))) acs ja)) cs15 ((acs.getD ja ac0).2.1) _ (hM.get 6 rfl) hs15 hl_k (OkTs.all ((playP_inv (h := h) (OkTs.pad (n := 2 ^ h) hoL) ho_acs (show ja ≤ acs.length by omega)).1)) (by first | decide | omega) (allT_len (Nat.le_of_eq ((playP_inv (h := h) (OkTs.pad (n := 2 ^ h) hoL) ho_acs (show ja ≤ acs.length by omega)).2.trans (padL_length (by rw [hll]; exact hm)))))) rfl ?_
        rintro e w16 ⟨rfl, hN⟩
        refine ⟨_, rfl, trivial, ?_⟩; clear hE a; intro a hE
        replace hM : Mem _ _ w16 [_, _, _, _, _, _, _, _, _, _, _, _, _, _] := hM.call0 hN trivial; clear hN
        refine s_move hE rfl rfl ?_; clear hE a; intro a hE
        refine s_extract hE rfl rfl rfl ?_; clear hE a; intro a hE
        refine s_extract hE rfl rfl rfl ?_; clear hE a; intro a hE
        refine s_alloc [64] hE hM zero52 rfl rfl ?_; clear hE a; intro a b21 w17 hE hM'
        clear hM; have hM := hM'; clear hM'
        refine s_storeSeg 0 hE rfl rfl hM rfl sz52 ((bv_length _).trans (nodeZ_len (OkTs.all ((playP_inv (h := h) (OkTs.pad (n := 2 ^ h) hoL) ho_acs (show ja ≤ acs.length by omega)).1)))) (bv_one _) rfl ((bv_length _).trans (by first | (simp; done) | (simp [*]; done) | (simp; omega))) rfl (by intro X h; cases h) ?_; intro w18 hM'; clear hM; have hM := hM'; clear hM'
        simp only [List.set_cons_zero, List.set_cons_succ] at hM
        refine s_assign hE rfl rfl ?_; clear hE a; intro a hE
        refine q_nil ?_
        replace hE : Env a 206 [(2, _), (3, _), (4, _), (6, _), (7, _), (8, _), (9, _), (11, _), (12, _), (17, _), (18, _), (19, _), (20, _), (21, _), (22, _), (38, _), (70, _), (72, _), (85, _), (95, _)] := hE.sel [2, 3, 4, 6, 7, 8, 9, 11, 12, 17, 18, 19, 20, 21, 22, 38, 70, 72, 85, 95] rfl
        refine hK20 _ _ ?_
        refine wp_seq_k (fun K21 hK21 => ?_)
        refine wp_plain [true, true, true, false, true, true, true, false, false, true] rfl rfl ?_
        refine s_move hE rfl rfl ?_; clear hE a; intro a hE
        refine s_fieldAddr hE rfl fo39_1 rfl ?_; clear hE a; intro a hE
        refine s_load1 hE rfl (hM.get 3 rfl) rfl one3 (by intro X h; cases h) rfl ?_; clear hE a; intro a hE
        obtain ⟨cs16, hs16⟩ := own_rd (hM.get 5 rfl)
        refine s_call hE rfl Tryd.call25 (rnodeI_c b65 h k u65 (playP h (padL (2 ^ h) (ls.take (min ls.length 40))) acs ja) cs16 ((acs.getD ja ac0).2.1) _ (hM.get 4 rfl) hs16 hl_k ((playP_inv (h := h) (OkTs.pad (n := 2 ^ h) hoL) ho_acs (show ja ≤ acs.length by omega)).1) (by first | decide | omega) ((playP_inv (h := h) (OkTs.pad (n := 2 ^ h) hoL) ho_acs (show ja ≤ acs.length by omega)).2.trans (padL_length (by rw [hll]; exact hm)))) rfl ?_
        rintro e w19 ⟨rfl, hN⟩
        refine ⟨_, rfl, trivial, ?_⟩; clear hE a; intro a hE
        replace hM : Mem _ _ w19 [_, _, _, _, _, _, _, _, _, _, _, _, _, _, _] := hM.call0 hN trivial; clear hN
        refine s_move hE rfl rfl ?_; clear hE a; intro a hE
        refine s_extract hE rfl rfl rfl ?_; clear hE a; intro a hE
        refine s_extract hE rfl rfl rfl ?_; clear hE a; intro a hE
        refine s_alloc [64] hE hM zero52 rfl rfl ?_; clear hE a; intro a b23 w20 hE hM'
        clear hM; have hM := hM'; clear hM'
        refine s_storeSeg 0 hE rfl rfl hM rfl sz52 ((bv_length _).trans (nodeZ_len (OkTs.all ((playP_inv (h := h) (OkTs.pad (n := 2 ^ h) hoL) ho_acs (show ja ≤ acs.length by omega)).1)))) (bv_one _) rfl ((bv_length _).trans (by first | (simp; done) | (simp [*]; done) | (simp; omega))) rfl (by intro X h; cases h) ?_; intro w21 hM'; clear hM; have hM := hM'; clear hM'
        simp only [List.set_cons_zero, List.set_cons_succ] at hM
        refine s_assign hE rfl rfl ?_; clear hE a; intro a hE
        refine q_nil ?_
        replace hE : Env a 206 [(2, _), (3, _), (4, _), (6, _), (7, _), (8, _), (9, _), (11, _), (12, _), (17, _), (18, _), (19, _), (20, _), (21, _), (22, _), (23, _), (24, _), (38, _), (70, _), (72, _), (85, _), (95, _)] := hE.sel [2, 3, 4, 6, 7, 8, 9, 11, 12, 17, 18, 19, 20, 21, 22, 23, 24, 38, 70, 72, 85, 95] rfl
        refine hK21 _ _ ?_
        refine wp_seq_k (fun K22 hK22 => ?_)
        refine wp_plain [true, true, true, false, true, true, true, true, true] rfl rfl ?_
        refine s_move hE rfl rfl ?_; clear hE a; intro a hE
        refine s_fieldAddr hE rfl fo39_1 rfl ?_; clear hE a; intro a hE
        refine s_load1 hE rfl (hM.get 4 rfl) rfl one3 (by intro X h; cases h) rfl ?_; clear hE a; intro a hE
        obtain ⟨cs17, hs17⟩ := own_rd (hM.get 9 rfl)
        refine s_call hE rfl Tryd.call14 (tproofI_c b51 h k u51 (allT k (2 ^ h) (playP h (padL (2 ^ h) (ls.take (min ls.length 40))) acs ja)) cs17 ((acs.getD ja ac0).2.1) _ (hM.get 8 rfl) hs17 hl_k (OkTs.all ((playP_inv (h := h) (OkTs.pad (n := 2 ^ h) hoL) ho_acs (show ja ≤ acs.length by omega)).1)) (by first | decide | omega) (allT_len (Nat.le_of_eq ((playP_inv (h := h) (OkTs.pad (n := 2 ^ h) hoL) ho_acs (show ja ≤ acs.length by omega)).2.trans (padL_length (by rw [hll]; exact hm)))))) rfl ?_
        rintro e w22 ⟨v155, rfl, hN⟩
        refine ⟨_, rfl, trivial, ?_⟩; clear hE a; intro a hE
        replace hM : Mem _ _ w22 [_, _, _, _, _, _, _, _, _, _, _, _, _, _, _, _, _] := hM.call0 hN ⟨rfl, trivial⟩; clear hN
        refine s_move hE rfl rfl ?_; clear hE a; intro a hE
        refine s_extract hE rfl rfl rfl ?_; clear hE a; intro a hE
        refine s_extract hE rfl rfl rfl ?_; clear hE a; intro a hE
        refine s_assign hE rfl rfl ?_; clear hE a; intro a hE
        refine s_assign hE rfl rfl ?_; clear hE a; intro a hE
        refine q_nil ?_
        replace hE : Env a 206 [(2, _), (3, _), (4, _), (6, _), (7, _), (8, _), (9, _), (11, _), (12, _), (17, _), (18, _), (19, _), (20, _), (21, _), (22, _), (23, _), (24, _), (25, _), (26, _), (38, _), (70, _), (72, _), (85, _), (95, _)] := hE.sel [2, 3, 4, 6, 7, 8, 9, 11, 12, 17, 18, 19, 20, 21, 22, 23, 24, 25, 26, 38, 70, 72, 85, 95] rfl
        refine hK22 _ _ ?_
        refine wp_seq_k (fun K23 hK23 => ?_)
        refine wp_plain [true, true, true, false, true, true, true, true, true] rfl rfl ?_
        refine s_move hE rfl rfl ?_; clear hE a; intro a hE
        refine s_fieldAddr hE rfl fo39_1 rfl ?_; clear hE a; intro a hE
        refine s_load1 hE rfl (hM.get 5 rfl) rfl one3 (by intro X h; cases h) rfl ?_; clear hE a; intro a hE
        obtain ⟨cs18, hs18⟩ := own_rd (hM.get 7 rfl)
        refine s_call hE rfl Tryd.call26 (rproofI_c b65 h k u65 (playP h (padL (2 ^ h) (ls.take (min ls.length 40))) acs ja) cs18 ((acs.getD ja ac0).2.1) _ (hM.get 6 rfl) hs18 hl_k ((playP_inv (h := h) (OkTs.pad (n := 2 ^ h) hoL) ho_acs (show ja ≤ acs.length by omega)).1) (by first | decide | omega) ((playP_inv (h := h) (OkTs.pad (n := 2 ^ h) hoL) ho_acs (show ja ≤ acs.length by omega)).2.trans (padL_length (by rw [hll]; exact hm)))) rfl ?_
        rintro e w23 ⟨v162, rfl, hN⟩
        refine ⟨_, rfl, trivial, ?_⟩; clear hE a; intro a hE
        replace hM : Mem _ _ w23 [_, _, _, _, _, _, _, _, _, _, _, _, _, _, _, _, _, _] := hM.call0 hN ⟨rfl, trivial⟩; clear hN
        refine s_move hE rfl rfl ?_; clear hE a; intro a hE
        refine s_extract hE rfl rfl rfl ?_; clear hE a; intro a hE
        refine s_extract hE rfl rfl rfl ?_; clear hE a; intro a hE
        refine s_assign hE rfl rfl ?_; clear hE a; intro a hE
        refine s_assign hE rfl rfl ?_; clear hE a; intro a hE
        refine q_nil ?_
        replace hE : Env a 206 [(2, _), (3, _), (4, _), (6, _), (7, _), (8, _), (9, _), (11, _), (12, _), (17, _), (18, _), (19, _), (20, _), (21, _), (22, _), (23, _), (24, _), (25, _), (26, _), (27, _), (28, _), (38, _), (70, _), (72, _), (85, _), (95, _)] := hE.sel [2, 3, 4, 6, 7, 8, 9, 11, 12, 17, 18, 19, 20, 21, 22, 23, 24, 25, 26, 27, 28, 38, 70, 72, 85, 95] rfl
        refine hK23 _ _ ?_
        refine wp_seq_k (fun K24 hK24 => ?_)
        refine wp_plain [true, false, true, true, true, false, false, true] rfl rfl ?_
        refine s_move hE rfl rfl ?_; clear hE a; intro a hE
        obtain ⟨cs19, hs19⟩ := own_rd (hM.get 8 rfl)
        refine s_call hE rfl Tryd.call23 (qtagI_c b65 h k u65 (playP h (padL (2 ^ h) (ls.take (min ls.length 40))) acs ja) cs19 1 _ (hM.get 7 rfl) hs19 hl_k ((playP_inv (h := h) (OkTs.pad (n := 2 ^ h) hoL) ho_acs (show ja ≤ acs.length by omega)).1) (by first | decide | omega) ((playP_inv (h := h) (OkTs.pad (n := 2 ^ h) hoL) ho_acs (show ja ≤ acs.length by omega)).2.trans (padL_length (by rw [hll]; exact hm)))) rfl ?_
        rintro e w24 ⟨rfl, hN⟩
        refine ⟨_, rfl, trivial, ?_⟩; clear hE a; intro a hE
        replace hM : Mem _ _ w24 [_, _, _, _, _, _, _, _, _, _, _, _, _, _, _, _, _, _] := hM.call0 hN trivial; clear hN
        refine s_move hE rfl rfl ?_; clear hE a; intro a hE
        refine s_extract hE rfl rfl rfl ?_; clear hE a; intro a hE
        refine s_extract hE rfl rfl rfl ?_; clear hE a; intro a hE
        refine s_alloc [32] hE hM zero34 rfl rfl ?_; clear hE a; intro a b29 w25 hE hM'
        clear hM; have hM := hM'; clear hM'
        refine s_storeSeg 0 hE rfl rfl hM rfl sz34 ((bv_length _).trans (tagZ_len (OkTs.all ((playP_inv (h := h) (OkTs.pad (n := 2 ^ h) hoL) ho_acs (show ja ≤ acs.length by omega)).1)))) (bv_one _) rfl ((bv_length _).trans (by first | (simp; done) | (simp [*]; done) | (simp; omega))) rfl (by intro X h; cases h) ?_; intro w26 hM'; clear hM; have hM := hM'; clear hM'
        simp only [List.set_cons_zero, List.set_cons_succ] at hM
        refine s_assign hE rfl rfl ?_; clear hE a; intro a hE
        refine q_nil ?_
        replace hE : Env a 206 [(2, _), (3, _), (4, _), (6, _), (7, _), (8, _), (9, _), (11, _), (12, _), (17, _), (18, _), (19, _), (20, _), (21, _), (22, _), (23, _), (24, _), (25, _), (26, _), (27, _), (28, _), (29, _), (38, _), (70, _), (72, _), (85, _), (95, _)] := hE.sel [2, 3, 4, 6, 7, 8, 9, 11, 12, 17, 18, 19, 20, 21, 22, 23, 24, 25, 26, 27, 28, 29, 38, 70, 72, 85, 95] rfl
        refine hK24 _ _ ?_
        refine wp_seq_k (fun K25 hK25 => ?_)
        refine wp_drawnM hM (by kernel_rfl) (fun _ => False) [(0, true), (1, true), (2, true), (3, true), (4, true), (5, true), (6, true), (7, true), (8, true), (9, true), (10, true), (11, true), (12, true), (13, true), (14, true), (15, true), (16, true), (17, true), (18, true), (19, true), (20, true), (21, false), (22, true), (23, true), (24, true), (25, true), (26, true), (27, true), (28, true), (29, true), (30, true), (32, true), (31, false), (33, true), (34, true)] [(21, [(22, 21), (23, 22), (24, 21), (25, 24), (26, 24), (27, 24), (28, 24), (29, 24), (30, 29), (32, 29), (31, 29), (33, 32), (34, 33)]), (31, [(33, 31), (34, 33)])] (by kernel_rfl) rfl ?_
        intro w27 hM' hww27; clear hM; have hM := hM'; clear hM'
        refine s_loadN hE rfl (hM.get 6 rfl) row34 rfl (by intro X h; cases h; simp) rfl ?_; clear hE a; intro a hE
        refine s_loadN hE rfl (hM.get 5 rfl) row34 rfl (by intro X h; cases h; simp) rfl ?_; clear hE a; intro a hE
        refine s_bin hE rfl rfl (eqa34 (tagZ_len (OkTs.all ((playP_inv (h := h) (OkTs.pad (n := 2 ^ h) hoL) ho_acs (show ja ≤ acs.length by omega)).1))) (tagZ_len (OkTs.all ((playP_inv (h := h) (OkTs.pad (n := 2 ^ h) hoL) ho_acs (show ja ≤ acs.length by omega)).1)))).2 rfl ?_; clear hE a; intro a hE
        refine s_move hE rfl rfl ?_; clear hE a; intro a hE
        replace hE := hE.cast 173 rfl (show _ = Value.bool false from (congrArg Value.bool (by simp)))
        refine g_yes hE rfl rfl ?_
        refine s_move hE rfl rfl ?_; clear hE a; intro a hE
        refine g_yes hE rfl rfl ?_
        refine s_move hE rfl rfl ?_; clear hE a; intro a hE
        refine g_yes hE rfl rfl ?_
        refine s_bin hE rfl rfl bin_neq rfl ?_; clear hE a; intro a hE
        refine s_pickf hE rfl rfl rfl ?_; clear hE a; intro a hE
        refine s_move hE rfl rfl ?_; clear hE a; intro a hE
        replace hE := hE.cast 178 rfl (show _ = Value.bool false from (congrArg Value.bool (by simp)))
        refine g_yes hE rfl rfl ?_
        refine s_loadN hE rfl (hM.get 4 rfl) row52 rfl (by intro X h; cases h; simp) rfl ?_; clear hE a; intro a hE
        refine g_yes hE rfl rfl ?_
        refine s_loadN hE rfl (hM.get 3 rfl) row52 rfl (by intro X h; cases h; simp) rfl ?_; clear hE a; intro a hE
        refine g_yes hE rfl rfl ?_
        refine s_bin hE rfl rfl (eqa52 (nodeZ_len (OkTs.all ((playP_inv (h := h) (OkTs.pad (n := 2 ^ h) hoL) ho_acs (show ja ≤ acs.length by omega)).1))) (nodeZ_len (OkTs.all ((playP_inv (h := h) (OkTs.pad (n := 2 ^ h) hoL) ho_acs (show ja ≤ acs.length by omega)).1)))).2 rfl ?_; clear hE a; intro a hE
        refine s_pickf hE rfl rfl rfl ?_; clear hE a; intro a hE
        refine s_move hE rfl rfl ?_; clear hE a; intro a hE
        replace hE := hE.cast 183 rfl (show _ = Value.bool false from (congrArg Value.bool (by simp)))
        refine g_yes hE rfl rfl ?_
        refine s_move hE rfl rfl ?_; clear hE a; intro a hE
        refine g_yes hE rfl rfl ?_
        refine s_move hE rfl rfl ?_; clear hE a; intro a hE
        refine g_yes hE rfl rfl ?_
        refine s_bin hE rfl rfl bin_neq rfl ?_; clear hE a; intro a hE
        refine s_pickf hE rfl rfl rfl ?_; clear hE a; intro a hE
        refine s_move hE rfl rfl ?_; clear hE a; intro a hE
        replace hE := hE.cast 188 rfl (show _ = Value.bool false from (congrArg Value.bool (by simp)))
        refine g_yes hE rfl rfl ?_
        refine s_move hE rfl rfl ?_; clear hE a; intro a hE
        refine g_yes hE rfl rfl ?_
        refine s_move hE rfl rfl ?_; clear hE a; intro a hE
        refine g_yes hE rfl rfl ?_
        obtain ⟨cq20, hq20⟩ := own_rd (hM.get 2 rfl)
        obtain ⟨cq21, hq21⟩ := own_rd (hM.get 1 rfl)
        refine s_call hE rfl Tryd.call27 (same_c _ (proofZ (allT k (2 ^ h) (playP h (padL (2 ^ h) (ls.take (min ls.length 40))) acs ja)) h ((acs.getD ja ac0).2.1)) _ _ (proofZ (allT k (2 ^ h) (playP h (padL (2 ^ h) (ls.take (min ls.length 40))) acs ja)) h ((acs.getD ja ac0).2.1)) _ _ hq20 (proofZ_ok (OkTs.all ((playP_inv (h := h) (OkTs.pad (n := 2 ^ h) hoL) ho_acs (show ja ≤ acs.length by omega)).1))) hq21 (proofZ_ok (OkTs.all ((playP_inv (h := h) (OkTs.pad (n := 2 ^ h) hoL) ho_acs (show ja ≤ acs.length by omega)).1))) (by first | exact pathZ_le | exact chgZ_le (by omega) | exact proofZ_le (by omega) | omega)) rfl ?_
        rintro e w28 ⟨rfl, hN⟩
        refine ⟨_, rfl, hN.sta0 _, ?_⟩; clear hE a; intro a hE
        replace hM : Mem _ _ w28 [_, _, _, _, _, _, _, _, _, _, _, _, _, _, _, _, _, _, _] := hM.call0 hN trivial; clear hN
        refine g_yes hE rfl rfl ?_
        refine s_not hE rfl rfl ?_; clear hE a; intro a hE
        refine s_pickf hE rfl rfl rfl ?_; clear hE a; intro a hE
        refine s_move hE rfl rfl ?_; clear hE a; intro a hE
        replace hE := hE.cast 194 rfl (show _ = Value.bool false from (congrArg Value.bool (by simp)))
        refine g_yes hE rfl rfl ?_
        refine s_move hE rfl rfl ?_; clear hE a; intro a hE
        refine g_yes hE rfl rfl ?_
        refine s_move hE rfl rfl ?_; clear hE a; intro a hE
        refine g_yes hE rfl rfl ?_
        refine s_bin hE rfl rfl bin_neq rfl ?_; clear hE a; intro a hE
        refine s_pickf hE rfl rfl rfl ?_; clear hE a; intro a hE
        refine s_move hE rfl rfl ?_; clear hE a; intro a hE
        replace hE := hE.cast 199 rfl (show _ = Value.bool false from (congrArg Value.bool (by simp)))
        refine g_yes hE rfl rfl ?_
        refine s_move hE rfl rfl ?_; clear hE a; intro a hE
        refine g_yes hE rfl rfl ?_
        refine s_loadN hE rfl (hM.get 0 rfl) row34 rfl (by intro X h; cases h; simp) rfl ?_; clear hE a; intro a hE
        refine g_yes hE rfl rfl ?_
        obtain ⟨cs22, hs22⟩ := own_rd (hM.get 12 rfl)
        refine s_call hE rfl Tryd.call12 (ttop_c b51 h k u51 (allT k (2 ^ h) (playP h (padL (2 ^ h) (ls.take (min ls.length 40))) acs ja)) cs22 _ (hM.get 11 rfl) hs22 hl_k (OkTs.all ((playP_inv (h := h) (OkTs.pad (n := 2 ^ h) hoL) ho_acs (show ja ≤ acs.length by omega)).1)) (by first | decide | omega) (allT_len (Nat.le_of_eq ((playP_inv (h := h) (OkTs.pad (n := 2 ^ h) hoL) ho_acs (show ja ≤ acs.length by omega)).2.trans (padL_length (by rw [hll]; exact hm)))))) rfl ?_
        rintro e w29 ⟨rfl, hN⟩
        refine ⟨_, rfl, hN.sta0 _, ?_⟩; clear hE a; intro a hE
        replace hM : Mem _ _ w29 [_, _, _, _, _, _, _, _, _, _, _, _, _, _, _, _, _, _, _] := hM.call0 hN trivial; clear hN
        refine g_yes hE rfl rfl ?_
        refine s_bin hE rfl rfl (eqa34 (OkTs.get (OkTs.all ((playP_inv (h := h) (OkTs.pad (n := 2 ^ h) hoL) ho_acs (show ja ≤ acs.length by omega)).1)) 1) (tagZ_len (OkTs.all ((playP_inv (h := h) (OkTs.pad (n := 2 ^ h) hoL) ho_acs (show ja ≤ acs.length by omega)).1)))).2 rfl ?_; clear hE a; intro a hE
        refine s_pickf hE rfl rfl rfl ?_; clear hE a; intro a hE
        refine q_nil ?_
        replace hE : Env a 206 [(2, _), (3, _), (4, _), (6, _), (7, _), (8, _), (9, _), (11, _), (12, _), (17, _), (18, _), (19, _), (20, _), (21, _), (22, _), (23, _), (24, _), (25, _), (26, _), (27, _), (28, _), (29, _), (38, _), (70, _), (72, _), (85, _), (95, _), (204, _)] := hE.sel [2, 3, 4, 6, 7, 8, 9, 11, 12, 17, 18, 19, 20, 21, 22, 23, 24, 25, 26, 27, 28, 29, 38, 70, 72, 85, 95, 204] rfl
        refine hK25 _ _ ?_
        replace hE := hE.cast 204 rfl (show _ = Value.bool false from (congrArg Value.bool (by rw [tagZ_one (by omega)]; simp)))
        refine wp_cond_false (hE.eval rfl) ?_
        refine wp_skip ?_
        refine q_block_n ?_
        refine hK14 _ _ ?_
        refine wp_plain [true, true, true] rfl rfl ?_
        refine s_move hE rfl rfl ?_; clear hE a; intro a hE
        refine s_bin hE rfl rfl (show Bin _ _ _ _ _ (.int .i64 ((ja + 1 : Nat) : Int)) from bin_add (by rw [wrap_i64 (by omega) (by omega)]; omega)) rfl ?_; clear hE a; intro a hE
        refine s_assign hE rfl rfl ?_; clear hE a; intro a hE
        refine q_nil ?_
        replace hE : Env a 206 [(2, _), (3, _), (4, _), (6, _), (7, _), (8, _), (9, _), (11, _), (12, _), (17, _), (18, _), (19, _), (20, _), (21, _), (22, _), (23, _), (24, _), (25, _), (26, _), (27, _), (28, _), (29, _), (38, _), (70, _), (72, _), (85, _), (95, _), (204, _)] := hE.sel [2, 3, 4, 6, 7, 8, 9, 11, 12, 17, 18, 19, 20, 21, 22, 23, 24, 25, 26, 27, 28, 29, 38, 70, 72, 85, 95, 204] rfl
        replace hE := hE.cast 11 rfl (show _ = Value.int .i64 (((ja + 1) : Nat) : Int) from (congrArg _ (by omega)))
        replace hM : Mem _ _ w29 [_, _, _, _, _, _, _, _, _, _, _, _, _, _, _, _, _, _, _] := hM.pick [12, 0, 1, 2, 3, 4, 5, 6, 7, 8, 9, 10, 11, 13, 14, 15, 16, 17, 18] rfl
        replace hM := Mem.ownRowsEq (f := bv) (ls := allT k (2 ^ h) (playP h (padL (2 ^ h) (ls.take (min ls.length 40))) acs ja)) (ms := allT k (2 ^ h) (playP h (padL (2 ^ h) (ls.take (min ls.length 40))) acs (ja + 1))) hM (by rw [playP_succ (by assumption), stepP, if_neg hb95])
        replace hM : Mem _ _ w29 [_, _, _, _, _, _, _, _, _, _, _, _, _, _, _, _, _, _, _] := hM.pick [10, 0, 1, 2, 3, 4, 5, 6, 7, 8, 9, 11, 12, 13, 14, 15, 16, 17, 18] rfl
        replace hM := Mem.ownRowsEq (f := bv) (ls := playP h (padL (2 ^ h) (ls.take (min ls.length 40))) acs ja) (ms := playP h (padL (2 ^ h) (ls.take (min ls.length 40))) acs (ja + 1)) hM (by rw [playP_succ (by assumption), stepP, if_neg hb95])
        replace hM : Mem _ _ w29 [_, _, _, _, _, _, _, _, _, _, _] := hM.pick [0, 1, 10, 11, 12, 13, 14, 15, 16, 17, 18] rfl
        replace hM : Mem _ _ w29 [_, _, _, _, _, _, _, _, _, _, _] := hM.pick [2, 0, 3, 4, 1, 5, 6, 7, 8, 9, 10] rfl
        exact ⟨ja + 1, ⟨by omega, hE.sel [2, 3, 4, 6, 7, 8, 9, 11, 38, 70, 72] rfl, hM⟩, by omega⟩
    · replace hE := hE'; clear hE'
      replace hb85 := of_decide_eq_false hb85
      replace hb85 : ¬ (ja < 20) := by omega
      refine wp_cond_false (hE.eval rfl) ?_
      refine wp_exit ?_
      refine q_then_e ?_
      refine q_then_e ?_
      refine q_block_x ?_
      refine hK10 _ _ ?_
      refine wp_seq_k (fun K14 hK14 => ?_)
      refine wp_plain [false, true] rfl rfl ?_
      refine s_call hE rfl Tryd.call9 (works_c  _ (hM.get 10 rfl)) rfl ?_
      rintro e w8 ⟨rfl, hN⟩
      refine ⟨_, rfl, trivial, ?_⟩; clear hE a; intro a hE
      replace hM : Mem _ _ w8 [_, _, _, _, _, _, _, _, _, _, _] := hM.call0 hN trivial; clear hN
      refine s_assign hE rfl rfl ?_; clear hE a; intro a hE
      refine q_nil ?_
      replace hE : Env a 206 [(2, _), (3, _), (4, _), (6, _), (7, _), (8, _), (9, _), (11, _), (38, _), (70, _), (72, _), (85, _)] := hE.sel [2, 3, 4, 6, 7, 8, 9, 11, 38, 70, 72, 85] rfl
      refine hK14 _ _ ?_
      refine wp_ret ?_
      refine f_ret1 hE rfl rfl ?_
      exact ⟨(by first | rfl | (simp; done)), hM.pick [] rfl⟩
  · replace hE := hE'; clear hE'
    replace hb82 := of_decide_eq_false hb82
    replace hb82 : ¬ (ja < acs.length) := by omega
    refine g_no (b := false) hE rfl rfl rfl ?_; clear hE a; intro a hE
    refine g_no (b := false) hE rfl rfl rfl ?_; clear hE a; intro a hE
    refine s_pickf hE rfl rfl rfl ?_; clear hE a; intro a hE
    refine q_nil ?_
    replace hE : Env a 206 [(2, _), (3, _), (4, _), (6, _), (7, _), (8, _), (9, _), (11, _), (38, _), (70, _), (72, _), (85, _)] := hE.sel [2, 3, 4, 6, 7, 8, 9, 11, 38, 70, 72, 85] rfl
    refine hK13 _ _ ?_
    refine wp_cond_false (hE.eval rfl) ?_
    refine wp_exit ?_
    refine q_then_e ?_
    refine q_then_e ?_
    refine q_block_x ?_
    refine hK10 _ _ ?_
    refine wp_seq_k (fun K14 hK14 => ?_)
    refine wp_plain [false, true] rfl rfl ?_
    refine s_call hE rfl Tryd.call9 (works_c  _ (hM.get 10 rfl)) rfl ?_
    rintro e w8 ⟨rfl, hN⟩
    refine ⟨_, rfl, trivial, ?_⟩; clear hE a; intro a hE
    replace hM : Mem _ _ w8 [_, _, _, _, _, _, _, _, _, _, _] := hM.call0 hN trivial; clear hN
    refine s_assign hE rfl rfl ?_; clear hE a; intro a hE
    refine q_nil ?_
    replace hE : Env a 206 [(2, _), (3, _), (4, _), (6, _), (7, _), (8, _), (9, _), (11, _), (38, _), (70, _), (72, _), (85, _)] := hE.sel [2, 3, 4, 6, 7, 8, 9, 11, 38, 70, 72, 85] rfl
    refine hK14 _ _ ?_
    refine wp_ret ?_
    refine f_ret1 hE rfl rfl ?_
    exact ⟨(by first | rfl | (simp; done)), hM.pick [] rfl⟩
theorem treePlays_c (k : List UInt8) (y : Int) (v : Value) (ls : List (List UInt8)) (c : Nat) (va : Value) (acs : List Wr) (ca : Nat) (w : World) (hG : (glb 0).holds w) (hl_k : k.length = 32) (hr_ls : (rd v 32 ls.length c (ls.flatMap bv)).holds w) (ho_ls : ∀ x, x ∈ ls → x.length = 32) (hr_acs : (rd va 34 acs.length ca (acs.flatMap wcl)).holds w) (ho_acs : ∀ x, x ∈ acs → OkAc x) : Calls Tryd.prog 6 #[.agg (bv k).toArray, .agg ([[.int .i64 y], [v]] : List (List Value)).flatten.toArray, va] w fun e w' => e = .returned (.bool true) ∧ Mem w [] w' [] := by
  by_cases h1 : 5 < y ∧ y ≤ 12
  · exact treePlays_big k y v ls c va acs ca w hG hl_k hr_ls ho_ls hr_acs ho_acs h1
  · by_cases h2 : 1 ≤ y ∧ y ≤ 12
    · obtain ⟨h, rfl⟩ : ∃ h : Nat, y = (h : Int) := ⟨y.toNat, by omega⟩
      by_cases h3 : min ls.length 40 ≤ 2 ^ h
      · exact treePlays_ok k h v ls c va acs ca w hG hl_k hr_ls ho_ls hr_acs ho_acs (by omega) h3
      · exact treePlays_no2 k h v ls c va acs ca w hG hl_k hr_ls ho_ls hr_acs ho_acs (by omega) h3
    · exact treePlays_no1 k y v ls c va acs ca w hG hl_k hr_ls ho_ls hr_acs ho_acs h2
set_option maxRecDepth 100000 in
theorem treePlays_lifted (os : Os) (started : os.Started) (H : Type) (enc : TypeId × Value → H) :
    ReturnsInHanded {} Tryd.checked os 6 .any (fun w args => (Rows.treePlaysSpec.pre enc Tryd.prog Tryd.f6 [] false w args ∧ laidMetH Tryd.prog Rows.treePlaysRow.laid w) ∧ sizedMet enc Tryd.prog Tryd.f6 (OpenSpec.ofChange Rows.treePlaysSpec) false w args) (Rows.treePlaysSpec.post enc Tryd.prog Tryd.f6 false true false false) := by
  refine law_liftedL (C := Tryd.checked) (fn := Tryd.f6) (l := Rows.treePlaysRow.laid) (by kernel_rfl) started (by kernel_rfl) Tryd.func6 rfl (fun ds hl => ?_) rfl Tryd.underlying4 (by kernel_rfl) (of_decide_eq_true (by kernel_rfl)) (by kernel_rfl)
    (ChangeSpec.witness_shaped (enc := enc) (C := Tryd.checked) (os := os) (X := fun w _ => laidMetH Tryd.prog Rows.treePlaysRow.laid w) false (World.laidAll Tryd.prog os Rows.treePlaysRow.laid) #[.agg (bv (List.replicate 32 0)).toArray, .agg ([Value.int .i64 0] ++ [Value.slice none 0 0]).toArray, .slice none 0 0] 8 (World.laidAll_os _ _ _) (World.shaped_of_ZipB (by kernel_rfl) (by kernel_rfl)) (by kernel_rfl) (by kernel_rfl) (by kernel_rfl) (by rw [MakeChecks.laidMetH_plain _ _ _ (by kernel_rfl)]; exact laidMet_laidAll _ (by kernel_rfl) (by kernel_rfl))) ?_
  · rw [Tryd.params6] at hl
    match ds, hl with
    | [_, _, _], _ => rfl
  · intro W base args ds ps hval hA hw hL
    have hG := glb_of_laid (P := Tryd.prog) (g := 0) (t := 123) (e := 102) (by kernel_rfl) (by kernel_rfl) Tryd.underlying123 Tryd.underlying102 (by kernel_rfl) (by kernel_rfl) (by kernel_rfl) (show laidMet Tryd.prog (_ :: _) W from hL)
    rw [Tryd.params6] at hA hval hw
    obtain ⟨v0, vs0, d0, ds0, p0, q0, hargs, rfl, rfl, h0, r0⟩ := trodAll_cons hA
    obtain ⟨v1, vs1, d1, ds1, p1, q1, rfl, rfl, rfl, h1, r1⟩ := trodAll_cons r0
    obtain ⟨v2, vs2, d2, ds2, p2, q2, rfl, rfl, rfl, h2, r2⟩ := trodAll_cons r1
    obtain ⟨rfl, rfl, rfl⟩ := trodAll_nil r2
    obtain rfl : args = #[v0, v1, v2] := by cases args; simp_all
    obtain ⟨a0, rfl, ha0⟩ := arg_arr8 Tryd.underlying23 Tryd.underlying5 (by kernel_rfl) (by kernel_rfl) (hval 0 23 v0 rfl rfl) h0 (fun m hm => hw m (by simp only [DataW.weightsEach, List.mem_append]; exact .inl hm))
    obtain ⟨cs1, rfl, hcs1⟩ := okWide_struct Tryd.underlying26 (hval 1 26 v1 rfl rfl)
    obtain ⟨_, _, hc1, ⟨y, rfl, hy1, hy2⟩, ⟨v, ls, c, rfl, hr_ls, ho_ls, hn_ls⟩⟩ := trod_of (dec_f2 (t := 26) (s := 2) (n0 := 1) (n1 := 1) Tryd.underlying26 (by kernel_rfl) (by kernel_rfl) rfl (dec_int Tryd.underlying3) (dec_rowsV (es := 32) (by_ := 32) Tryd.underlying24 (by kernel_rfl) (by kernel_rfl) (by decide) (dec_arr8 (n := 32) Tryd.underlying34 Tryd.underlying5 (by kernel_rfl) (by kernel_rfl)))) h1 (fun m hm => hw m (by simp only [DataW.weightsEach, List.mem_append]; exact .inr (.inl hm)))
    have ecs1 := agg_of hc1
    subst ecs1
    obtain ⟨acs, ca, hr_acs, ho_acs, hn_acs⟩ := arg_rowsB (es := 34) Tryd.underlying27 (by kernel_rfl) (by kernel_rfl) (by decide) (by decide : 0 < 48) (dec_ac (t0 := 3) (t1 := 3) (t2 := 34) Tryd.underlying39 (by kernel_rfl) (by kernel_rfl) Tryd.underlying3 Tryd.underlying3 Tryd.underlying34 Tryd.underlying5 (by kernel_rfl) (by kernel_rfl)) (hval 2 27 v2 rfl rfl) h2 (fun m hm => hw m (by simp only [DataW.weightsEach, List.mem_append]; exact .inr (.inr (.inl hm))))
    have ef : ∀ (a b : List Value), ([a, b] : List (List Value)).flatten = a ++ b := fun a b => by simp
    have ef3 : ∀ (a b c : List Value), ([a, b, c] : List (List Value)).flatten = a ++ (b ++ c) := fun a b c => by simp
    exact (by have h := treePlays_c a0 y v ls c v2 acs ca W hG ha0 hr_ls ho_ls hr_acs ho_acs; rw [ef] at h; exact h)

/-- The row's statement. -/
theorem treePlays_row : Rows.TreePlaysSaid :=
  OpenClaim.holds_of_wide 6 Tryd.f6 rfl rfl rfl rfl rfl rfl rfl ⟨rfl, rfl, rfl, rfl, rfl⟩ rfl rfl rfl rfl rfl (by kernel_rfl) Tryd.func6 (by kernel_rfl)
    (of_decide_eq_true (by kernel_rfl)) (by unfold Func.isWrapper; first | (rw [if_pos (by decide +kernel)]; kernel_rfl) | (rw [if_neg (by decide +kernel)]; exact ⟨rfl, rfl⟩))
    (fun os started H enc _ => treePlays_lifted os started H enc)

/-- The statement: the row, its listed variable tied to the program's text. -/
theorem treePlays_holds : Rows.TreePlaysCardSaid :=
  Claim7.holds_tied_plain_at .later [] [.data] true (true, "3e37e367fa882af65b92501024ce61bfddfc4c8207345e6e4fc0786d0584de6e") false
    treePlays_row (fun _ h => by cases h) (by kernel_rfl) (fun _ h => by cases h) treePlays_row_tie rfl ⟨rfl, rfl⟩ (by kernel_rfl) rfl
    (fun f fn hf hfn => by
      obtain rfl : f = 6 := Option.some.inj ((show Tryd.prog.funcNamed "casemate/casematelaw18.TreePlays" = some 6 by kernel_rfl).symm.trans hf) |>.symm
      obtain rfl : fn = Tryd.f6 := (Option.some.inj (Tryd.func6.symm.trans hfn)).symm
      exact ⟨by kernel_rfl, fun j t ht => by
        rw [Tryd.params6] at ht
        have h : t ∈ [23, 26, 27] := by
          rcases j with _ | _ | _ | j
          · simp at ht; simp [ht]
          · simp at ht; simp [ht]
          · simp at ht; simp [ht]
          · simp at ht
        simp only [List.mem_cons, List.not_mem_nil, or_false] at h
        rcases h with rfl | rfl | rfl
        · exact (show Tryd.prog.wantsStandIn 23 = false by kernel_rfl)
        · exact (show Tryd.prog.wantsStandIn 26 = false by kernel_rfl)
        · exact (show Tryd.prog.wantsStandIn 27 = false by kernel_rfl)⟩)
    (by kernel_rfl)
#print axioms treePlays_holds
end Go.Proofs.YtacebdngbalkmaaDoor
