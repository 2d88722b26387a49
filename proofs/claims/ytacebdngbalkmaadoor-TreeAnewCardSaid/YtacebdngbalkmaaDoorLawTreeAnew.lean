/- TreeAnew of casematelaw18 returns true for whatever key, height, leaves and acts; they read behind the call as before. No condition. -/
import Derived.Test.YtacebdngbalkmaaDoorLw
import Derived.Test.YtacebdngbalkmaaDoorTie
import Derived.Test.YtacebdngbalkmaaDoorCards
set_option linter.unusedSimpArgs false
set_option linter.unusedVariables false
namespace Go.Proofs.YtacebdngbalkmaaDoor
open Go Go.Kx
open Go.ChangeShapes Go.WideShapes Go.ChangeAt Go.RowKit
theorem fo26_0 : fieldOff Tryd.prog 26 0 = some 0 := by kernel_rfl
theorem fo26_1 : fieldOff Tryd.prog 26 1 = some 1 := by kernel_rfl
theorem slt27 : slT Tryd.prog 27 = some 34 := by kernel_rfl
theorem fo39_1 : fieldOff Tryd.prog 39 1 = some 1 := by kernel_rfl
theorem fo39_2 : fieldOff Tryd.prog 39 2 = some 2 := by kernel_rfl
set_option maxRecDepth 20000 in
theorem treeAnew_big (k : List UInt8) (y : Int) (v : Value) (ls : List (List UInt8)) (c : Nat) (va : Value) (acs : List Wr) (ca : Nat) (w : World) (hG : (glb 0).holds w) (hl_k : k.length = 32) (hr_ls : (rd v 32 ls.length c (ls.flatMap bv)).holds w) (ho_ls : ∀ x, x ∈ ls → x.length = 32) (hr_acs : (rd va 34 acs.length ca (acs.flatMap wcl)).holds w) (ho_acs : ∀ x, x ∈ acs → OkAc x) (hh : 5 < y ∧ y ≤ 12) : Calls Tryd.prog 3 #[.agg (bv k).toArray, .agg ([[.int .i64 y], [v]] : List (List Value)).flatten.toArray, va] w fun e w' => e = .returned (.bool true) ∧ Mem w [] w' [] := by
  have hM : Mem w [] w [rd v 32 ls.length c (ls.flatMap bv), rd va 34 acs.length ca (acs.flatMap wcl), glb 0] := Mem.startR w (fun g hg => by
    simp only [List.mem_cons, List.not_mem_nil, or_false] at hg
    rcases hg with rfl | rfl | rfl
    · exact ⟨hr_ls, rfl⟩
    · exact ⟨hr_acs, rfl⟩
    · exact ⟨hG, rfl⟩)
  refine f_enter 166 Tryd.func3 rfl rfl rfl ?_
  intro a hE
  replace hE : Env a 166 [(0, _), (1, _), (2, _)] := hE
  refine wp_seq_k (fun K1 hK1 => ?_)
  refine wp_plain [false, false, true] rfl rfl ?_
  refine s_box (ss := [bv k]) [32] hE hM rfl (by simp [Value.cells]) (by simp [*]) rfl ?_; clear hE a; intro a b3 w1 hE hM'
  clear hM; have hM := hM'; clear hM'
  refine s_box (ss := [[.int .i64 y], [v]]) [1, 1] hE hM rfl rfl (by simp [*]) rfl ?_; clear hE a; intro a b4 w2 hE hM'
  clear hM; have hM := hM'; clear hM'
  refine s_assign hE rfl rfl ?_; clear hE a; intro a hE
  refine q_nil ?_
  replace hE : Env a 166 [(2, _), (3, _), (4, _), (6, _)] := hE.sel [2, 3, 4, 6] rfl
  refine hK1 _ _ ?_
  refine wp_seq_k (fun K2 hK2 => ?_)
  refine wp_seq_k (fun K3 hK3 => ?_)
  refine wp_plain [true, true, true, true, true, true, true, true] rfl rfl ?_
  refine s_fieldAddr hE rfl fo26_0 rfl ?_; clear hE a; intro a hE
  refine s_load1 hE rfl (hM.get 0 rfl) rfl one3 (by intro X h; cases h) rfl ?_; clear hE a; intro a hE
  refine s_bin hE rfl rfl bin_gtr rfl ?_; clear hE a; intro a hE
  refine s_move hE rfl rfl ?_; clear hE a; intro a hE
  replace hE := hE.cast 24 rfl (show _ = Value.bool true from (congrArg Value.bool (decide_eq_true (by omega))))
  refine g_yes hE rfl rfl ?_
  refine s_fieldAddr hE rfl fo26_0 rfl ?_; clear hE a; intro a hE
  refine g_yes hE rfl rfl ?_
  refine s_load1 hE rfl (hM.get 0 rfl) rfl one3 (by intro X h; cases h) rfl ?_; clear hE a; intro a hE
  refine g_yes hE rfl rfl ?_
  refine s_bin hE rfl rfl bin_leq rfl ?_; clear hE a; intro a hE
  refine s_pickt hE rfl rfl rfl ?_; clear hE a; intro a hE
  refine q_nil ?_
  replace hE : Env a 166 [(2, _), (3, _), (4, _), (6, _), (28, _)] := hE.sel [2, 3, 4, 6, 28] rfl
  refine hK3 _ _ ?_
  replace hE := hE.cast 28 rfl (show _ = Value.bool true from (congrArg Value.bool (decide_eq_true (by omega))))
  refine wp_cond_true (hE.eval rfl) ?_
  refine wp_seq_k (fun K4 hK4 => ?_)
  refine wp_plain [false, true] rfl rfl ?_
  refine s_call hE rfl Tryd.call9 (works_c  _ (hM.get 4 rfl)) rfl ?_
  rintro e w3 ⟨rfl, hN⟩
  refine ⟨_, rfl, trivial, ?_⟩; clear hE a; intro a hE
  replace hM : Mem _ _ w3 [_, _, _, _, _] := hM.call0 hN trivial; clear hN
  refine s_assign hE rfl rfl ?_; clear hE a; intro a hE
  refine q_nil ?_
  replace hE : Env a 166 [(2, _), (3, _), (4, _), (6, _), (28, _)] := hE.sel [2, 3, 4, 6, 28] rfl
  refine hK4 _ _ ?_
  refine wp_ret ?_
  refine q_then_r ?_
  refine f_ret1 hE rfl rfl ?_
  exact ⟨(by first | rfl | (simp; done)), hM.pick [] rfl⟩
set_option maxRecDepth 20000 in
theorem treeAnew_no1 (k : List UInt8) (y : Int) (v : Value) (ls : List (List UInt8)) (c : Nat) (va : Value) (acs : List Wr) (ca : Nat) (w : World) (hG : (glb 0).holds w) (hl_k : k.length = 32) (hr_ls : (rd v 32 ls.length c (ls.flatMap bv)).holds w) (ho_ls : ∀ x, x ∈ ls → x.length = 32) (hr_acs : (rd va 34 acs.length ca (acs.flatMap wcl)).holds w) (ho_acs : ∀ x, x ∈ acs → OkAc x) (hh : ¬ (1 ≤ y ∧ y ≤ 12)) : Calls Tryd.prog 3 #[.agg (bv k).toArray, .agg ([[.int .i64 y], [v]] : List (List Value)).flatten.toArray, va] w fun e w' => e = .returned (.bool true) ∧ Mem w [] w' [] := by
  have hll : (ls.take (min ls.length 32)).length = min ls.length 32 := by rw [List.length_take]; omega
  have hoL : OkTs (ls.take (min ls.length 32)) := fun x hx => ho_ls x (List.mem_of_mem_take hx)
  have hM : Mem w [] w [rd v 32 ls.length c (ls.flatMap bv), rd va 34 acs.length ca (acs.flatMap wcl), glb 0] := Mem.startR w (fun g hg => by
    simp only [List.mem_cons, List.not_mem_nil, or_false] at hg
    rcases hg with rfl | rfl | rfl
    · exact ⟨hr_ls, rfl⟩
    · exact ⟨hr_acs, rfl⟩
    · exact ⟨hG, rfl⟩)
  refine f_enter 166 Tryd.func3 rfl rfl rfl ?_
  intro a hE
  replace hE : Env a 166 [(0, _), (1, _), (2, _)] := hE
  refine wp_seq_k (fun K1 hK1 => ?_)
  refine wp_plain [false, false, true] rfl rfl ?_
  refine s_box (ss := [bv k]) [32] hE hM rfl (by simp [Value.cells]) (by simp [*]) rfl ?_; clear hE a; intro a b3 w1 hE hM'
  clear hM; have hM := hM'; clear hM'
  refine s_box (ss := [[.int .i64 y], [v]]) [1, 1] hE hM rfl rfl (by simp [*]) rfl ?_; clear hE a; intro a b4 w2 hE hM'
  clear hM; have hM := hM'; clear hM'
  refine s_assign hE rfl rfl ?_; clear hE a; intro a hE
  refine q_nil ?_
  replace hE : Env a 166 [(2, _), (3, _), (4, _), (6, _)] := hE.sel [2, 3, 4, 6] rfl
  refine hK1 _ _ ?_
  refine wp_seq_k (fun K2 hK2 => ?_)
  refine wp_seq_k (fun K3 hK3 => ?_)
  refine wp_plain [true, true, true, true, true, true, true, true] rfl rfl ?_
  refine s_fieldAddr hE rfl fo26_0 rfl ?_; clear hE a; intro a hE
  refine s_load1 hE rfl (hM.get 0 rfl) rfl one3 (by intro X h; cases h) rfl ?_; clear hE a; intro a hE
  refine s_bin hE rfl rfl bin_gtr rfl ?_; clear hE a; intro a hE
  refine s_move hE rfl rfl ?_; clear hE a; intro a hE
  refine hE.split 24 rfl (fun hb24 hE' => ?_) (fun hb24 hE' => ?_)
  · replace hE := hE'; clear hE'
    replace hb24 := of_decide_eq_true hb24
    refine g_yes hE rfl rfl ?_
    refine s_fieldAddr hE rfl fo26_0 rfl ?_; clear hE a; intro a hE
    refine g_yes hE rfl rfl ?_
    refine s_load1 hE rfl (hM.get 0 rfl) rfl one3 (by intro X h; cases h) rfl ?_; clear hE a; intro a hE
    refine g_yes hE rfl rfl ?_
    refine s_bin hE rfl rfl bin_leq rfl ?_; clear hE a; intro a hE
    refine s_pickt hE rfl rfl rfl ?_; clear hE a; intro a hE
    refine q_nil ?_
    replace hE : Env a 166 [(2, _), (3, _), (4, _), (6, _), (28, _)] := hE.sel [2, 3, 4, 6, 28] rfl
    refine hK3 _ _ ?_
    refine hE.split 28 rfl (fun hb28 hE' => ?_) (fun hb28 hE' => ?_)
    · replace hE := hE'; clear hE'
      replace hb28 := of_decide_eq_true hb28
      refine wp_cond_true (hE.eval rfl) ?_
      refine wp_seq_k (fun K4 hK4 => ?_)
      refine wp_plain [false, true] rfl rfl ?_
      refine s_call hE rfl Tryd.call9 (works_c  _ (hM.get 4 rfl)) rfl ?_
      rintro e w3 ⟨rfl, hN⟩
      refine ⟨_, rfl, trivial, ?_⟩; clear hE a; intro a hE
      replace hM : Mem _ _ w3 [_, _, _, _, _] := hM.call0 hN trivial; clear hN
      refine s_assign hE rfl rfl ?_; clear hE a; intro a hE
      refine q_nil ?_
      replace hE : Env a 166 [(2, _), (3, _), (4, _), (6, _), (28, _)] := hE.sel [2, 3, 4, 6, 28] rfl
      refine hK4 _ _ ?_
      refine wp_ret ?_
      refine q_then_r ?_
      refine f_ret1 hE rfl rfl ?_
      exact ⟨(by first | rfl | (simp; done)), hM.pick [] rfl⟩
    · replace hE := hE'; clear hE'
      replace hb28 := of_decide_eq_false hb28
      refine wp_cond_false (hE.eval rfl) ?_
      refine wp_skip ?_
      refine hK2 _ _ ?_
      refine wp_seq_k (fun K4 hK4 => ?_)
      refine wp_plain [false, true, true, true, true, true, true, true, false, true] rfl rfl ?_
      refine s_buildSlice (xs := []) (([] : List (List UInt8)).flatMap bv) hE hM sl24 rfl rfl rfl (by intro v hv; cases hv) rfl rfl rfl rfl ?_; clear hE a; intro a v30 w3 hE hM'
      clear hM; have hM := hM'; clear hM'
      replace hM := hM.ownEq (m' := ([] : List (List UInt8)).length) (cs' := ([] : List (List UInt8)).flatMap bv) rfl rfl
      refine s_fieldAddr hE rfl fo26_1 rfl ?_; clear hE a; intro a hE
      refine s_load1 hE rfl (hM.get 1 rfl) rfl one24 (by intro X h; cases h) rfl ?_; clear hE a; intro a hE
      refine s_fieldAddr hE rfl fo26_1 rfl ?_; clear hE a; intro a hE
      refine s_load1 hE rfl (hM.get 1 rfl) rfl one24 (by intro X h; cases h) rfl ?_; clear hE a; intro a hE
      refine s_len hE rfl Tryd.underlying24 (rd_slice (hM.get 3 rfl)) rfl ?_; clear hE a; intro a hE
      refine s_min hE rfl rfl rfl ?_; clear hE a; intro a hE
      replace hE := hE.cast 36 rfl (show _ = Value.int .i64 ((min ls.length 32 : Nat) : Int) from congrArg (Value.int .i64) (by split <;> omega))
      have hcap37 := rd_len (hM.get 3 rfl)
      refine s_slice (l := 0) (h := min ls.length 32) (mx' := c) hE rfl (hM.get 3 rfl) slt24 rfl ⟨_, rfl⟩ rfl (by simp) (Nat.zero_le _) (by first | omega | (simp; omega) | decide +kernel) (by first | omega | (simp; omega) | decide +kernel) (Nat.le_refl _) rfl ?_; clear hE a; intro a v37 hE hr37 hvb37
      replace hr37 := rd_takeR (f := bv) (ls := ls) (fun x hx => ((bv_length _).trans (ho_ls x hx))) (by first | omega | (simp; omega) | decide +kernel) hr37
      replace hM := hM.addPart 3 rfl hr37 hvb37; clear hr37
      replace hM : Mem _ _ w3 [_, _, _, _, _, _, _] := hM.pick [1, 0, 2, 3, 4, 5, 6] rfl
      refine s_append hE rfl rfl hM sl24 (Src.rd Tryd.underlying24 (hM.get 1 rfl) (bvs_one _)) (len47 (by first | omega | (simp; done) | (simp; omega))) (by first | omega | (simp; done) | (simp; omega)) (by intro X h; cases h) rfl ?_; clear hE a; intro a v38 w4 hE hM'; clear hM; have hM := hM'; clear hM'
      replace hM := hM.ownEq (m' := (ls.take (min ls.length 32)).length) (cs' := (ls.take (min ls.length 32)).flatMap bv) (by simp) rfl
      refine s_assign hE rfl rfl ?_; clear hE a; intro a hE
      refine q_nil ?_
      replace hE : Env a 166 [(2, _), (3, _), (4, _), (6, _), (7, _), (28, _)] := hE.sel [2, 3, 4, 6, 7, 28] rfl
      refine hK4 _ _ ?_
      refine wp_seq_k (fun K5 hK5 => ?_)
      refine wp_plain [true, true, true, true, false, true, true, true, true, true] rfl rfl ?_
      refine s_loadN hE rfl (hM.get 3 rfl) row23 rfl (by intro X h; cases h) rfl ?_; clear hE a; intro a hE
      refine s_fieldAddr hE rfl fo26_0 rfl ?_; clear hE a; intro a hE
      refine s_load1 hE rfl (hM.get 2 rfl) rfl one3 (by intro X h; cases h) rfl ?_; clear hE a; intro a hE
      refine s_move hE rfl rfl ?_; clear hE a; intro a hE
      obtain ⟨cq1, hq1⟩ := own_rd (hM.get 0 rfl)
      refine s_call hE rfl Tryd.call10 (tnew_no1 k y _ (ls.take (min ls.length 32)) _ _ hl_k hq1 (ok_take ho_ls) (by omega)) rfl ?_
      rintro e w5 ⟨rfl, hN⟩
      refine ⟨_, rfl, trivial, ?_⟩; clear hE a; intro a hE
      replace hM : Mem _ _ w5 [_, _, _, _, _, _, _] := hM.call0 hN trivial; clear hN
      refine s_move hE rfl rfl ?_; clear hE a; intro a hE
      refine s_extract hE rfl rfl rfl ?_; clear hE a; intro a hE
      refine s_extract hE rfl rfl rfl ?_; clear hE a; intro a hE
      refine s_assign hE rfl rfl ?_; clear hE a; intro a hE
      refine s_assign hE rfl rfl ?_; clear hE a; intro a hE
      refine q_nil ?_
      replace hE : Env a 166 [(2, _), (3, _), (4, _), (6, _), (7, _), (8, _), (9, _), (28, _)] := hE.sel [2, 3, 4, 6, 7, 8, 9, 28] rfl
      refine hK5 _ _ ?_
      refine wp_seq_k (fun K6 hK6 => ?_)
      refine wp_seq_k (fun K7 hK7 => ?_)
      refine wp_plain [true, true] rfl rfl ?_
      refine s_move hE rfl rfl ?_; clear hE a; intro a hE
      refine s_bin hE rfl rfl bin_neq rfl ?_; clear hE a; intro a hE
      replace hE := hE.cast 48 rfl (show _ = Value.bool true from (congrArg Value.bool (by decide)))
      refine q_nil ?_
      replace hE : Env a 166 [(2, _), (3, _), (4, _), (6, _), (7, _), (8, _), (28, _), (48, _)] := hE.sel [2, 3, 4, 6, 7, 8, 28, 48] rfl
      refine hK7 _ _ ?_
      refine wp_cond_true (hE.eval rfl) ?_
      refine wp_seq_k (fun K8 hK8 => ?_)
      refine wp_plain [false, true] rfl rfl ?_
      refine s_call hE rfl Tryd.call9 (works_c  _ (hM.get 6 rfl)) rfl ?_
      rintro e w6 ⟨rfl, hN⟩
      refine ⟨_, rfl, trivial, ?_⟩; clear hE a; intro a hE
      replace hM : Mem _ _ w6 [_, _, _, _, _, _, _] := hM.call0 hN trivial; clear hN
      refine s_assign hE rfl rfl ?_; clear hE a; intro a hE
      refine q_nil ?_
      replace hE : Env a 166 [(2, _), (3, _), (4, _), (6, _), (7, _), (8, _), (28, _), (48, _)] := hE.sel [2, 3, 4, 6, 7, 8, 28, 48] rfl
      refine hK8 _ _ ?_
      refine wp_ret ?_
      refine q_then_r ?_
      refine f_ret1 hE rfl rfl ?_
      exact ⟨(by first | rfl | (simp; done)), hM.pick [] rfl⟩
  · replace hE := hE'; clear hE'
    replace hb24 := of_decide_eq_false hb24
    refine g_no (b := false) hE rfl rfl rfl ?_; clear hE a; intro a hE
    refine g_no (b := false) hE rfl rfl rfl ?_; clear hE a; intro a hE
    refine g_no (b := false) hE rfl rfl rfl ?_; clear hE a; intro a hE
    refine s_pickf hE rfl rfl rfl ?_; clear hE a; intro a hE
    refine q_nil ?_
    replace hE : Env a 166 [(2, _), (3, _), (4, _), (6, _), (28, _)] := hE.sel [2, 3, 4, 6, 28] rfl
    refine hK3 _ _ ?_
    refine wp_cond_false (hE.eval rfl) ?_
    refine wp_skip ?_
    refine hK2 _ _ ?_
    refine wp_seq_k (fun K4 hK4 => ?_)
    refine wp_plain [false, true, true, true, true, true, true, true, false, true] rfl rfl ?_
    refine s_buildSlice (xs := []) (([] : List (List UInt8)).flatMap bv) hE hM sl24 rfl rfl rfl (by intro v hv; cases hv) rfl rfl rfl rfl ?_; clear hE a; intro a v30 w3 hE hM'
    clear hM; have hM := hM'; clear hM'
    replace hM := hM.ownEq (m' := ([] : List (List UInt8)).length) (cs' := ([] : List (List UInt8)).flatMap bv) rfl rfl
    refine s_fieldAddr hE rfl fo26_1 rfl ?_; clear hE a; intro a hE
    refine s_load1 hE rfl (hM.get 1 rfl) rfl one24 (by intro X h; cases h) rfl ?_; clear hE a; intro a hE
    refine s_fieldAddr hE rfl fo26_1 rfl ?_; clear hE a; intro a hE
    refine s_load1 hE rfl (hM.get 1 rfl) rfl one24 (by intro X h; cases h) rfl ?_; clear hE a; intro a hE
    refine s_len hE rfl Tryd.underlying24 (rd_slice (hM.get 3 rfl)) rfl ?_; clear hE a; intro a hE
    refine s_min hE rfl rfl rfl ?_; clear hE a; intro a hE
    replace hE := hE.cast 36 rfl (show _ = Value.int .i64 ((min ls.length 32 : Nat) : Int) from congrArg (Value.int .i64) (by split <;> omega))
    have hcap37 := rd_len (hM.get 3 rfl)
    refine s_slice (l := 0) (h := min ls.length 32) (mx' := c) hE rfl (hM.get 3 rfl) slt24 rfl ⟨_, rfl⟩ rfl (by simp) (Nat.zero_le _) (by first | omega | (simp; omega) | decide +kernel) (by first | omega | (simp; omega) | decide +kernel) (Nat.le_refl _) rfl ?_; clear hE a; intro a v37 hE hr37 hvb37
    replace hr37 := rd_takeR (f := bv) (ls := ls) (fun x hx => ((bv_length _).trans (ho_ls x hx))) (by first | omega | (simp; omega) | decide +kernel) hr37
    replace hM := hM.addPart 3 rfl hr37 hvb37; clear hr37
    replace hM : Mem _ _ w3 [_, _, _, _, _, _, _] := hM.pick [1, 0, 2, 3, 4, 5, 6] rfl
    refine s_append hE rfl rfl hM sl24 (Src.rd Tryd.underlying24 (hM.get 1 rfl) (bvs_one _)) (len47 (by first | omega | (simp; done) | (simp; omega))) (by first | omega | (simp; done) | (simp; omega)) (by intro X h; cases h) rfl ?_; clear hE a; intro a v38 w4 hE hM'; clear hM; have hM := hM'; clear hM'
    replace hM := hM.ownEq (m' := (ls.take (min ls.length 32)).length) (cs' := (ls.take (min ls.length 32)).flatMap bv) (by simp) rfl
    refine s_assign hE rfl rfl ?_; clear hE a; intro a hE
    refine q_nil ?_
    replace hE : Env a 166 [(2, _), (3, _), (4, _), (6, _), (7, _), (28, _)] := hE.sel [2, 3, 4, 6, 7, 28] rfl
    refine hK4 _ _ ?_
    refine wp_seq_k (fun K5 hK5 => ?_)
    refine wp_plain [true, true, true, true, false, true, true, true, true, true] rfl rfl ?_
    refine s_loadN hE rfl (hM.get 3 rfl) row23 rfl (by intro X h; cases h) rfl ?_; clear hE a; intro a hE
    refine s_fieldAddr hE rfl fo26_0 rfl ?_; clear hE a; intro a hE
    refine s_load1 hE rfl (hM.get 2 rfl) rfl one3 (by intro X h; cases h) rfl ?_; clear hE a; intro a hE
    refine s_move hE rfl rfl ?_; clear hE a; intro a hE
    obtain ⟨cq2, hq2⟩ := own_rd (hM.get 0 rfl)
    refine s_call hE rfl Tryd.call10 (tnew_no1 k y _ (ls.take (min ls.length 32)) _ _ hl_k hq2 (ok_take ho_ls) (by omega)) rfl ?_
    rintro e w5 ⟨rfl, hN⟩
    refine ⟨_, rfl, trivial, ?_⟩; clear hE a; intro a hE
    replace hM : Mem _ _ w5 [_, _, _, _, _, _, _] := hM.call0 hN trivial; clear hN
    refine s_move hE rfl rfl ?_; clear hE a; intro a hE
    refine s_extract hE rfl rfl rfl ?_; clear hE a; intro a hE
    refine s_extract hE rfl rfl rfl ?_; clear hE a; intro a hE
    refine s_assign hE rfl rfl ?_; clear hE a; intro a hE
    refine s_assign hE rfl rfl ?_; clear hE a; intro a hE
    refine q_nil ?_
    replace hE : Env a 166 [(2, _), (3, _), (4, _), (6, _), (7, _), (8, _), (9, _), (28, _)] := hE.sel [2, 3, 4, 6, 7, 8, 9, 28] rfl
    refine hK5 _ _ ?_
    refine wp_seq_k (fun K6 hK6 => ?_)
    refine wp_seq_k (fun K7 hK7 => ?_)
    refine wp_plain [true, true] rfl rfl ?_
    refine s_move hE rfl rfl ?_; clear hE a; intro a hE
    refine s_bin hE rfl rfl bin_neq rfl ?_; clear hE a; intro a hE
    replace hE := hE.cast 48 rfl (show _ = Value.bool true from (congrArg Value.bool (by decide)))
    refine q_nil ?_
    replace hE : Env a 166 [(2, _), (3, _), (4, _), (6, _), (7, _), (8, _), (28, _), (48, _)] := hE.sel [2, 3, 4, 6, 7, 8, 28, 48] rfl
    refine hK7 _ _ ?_
    refine wp_cond_true (hE.eval rfl) ?_
    refine wp_seq_k (fun K8 hK8 => ?_)
    refine wp_plain [false, true] rfl rfl ?_
    refine s_call hE rfl Tryd.call9 (works_c  _ (hM.get 6 rfl)) rfl ?_
    rintro e w6 ⟨rfl, hN⟩
    refine ⟨_, rfl, trivial, ?_⟩; clear hE a; intro a hE
    replace hM : Mem _ _ w6 [_, _, _, _, _, _, _] := hM.call0 hN trivial; clear hN
    refine s_assign hE rfl rfl ?_; clear hE a; intro a hE
    refine q_nil ?_
    replace hE : Env a 166 [(2, _), (3, _), (4, _), (6, _), (7, _), (8, _), (28, _), (48, _)] := hE.sel [2, 3, 4, 6, 7, 8, 28, 48] rfl
    refine hK8 _ _ ?_
    refine wp_ret ?_
    refine q_then_r ?_
    refine f_ret1 hE rfl rfl ?_
    exact ⟨(by first | rfl | (simp; done)), hM.pick [] rfl⟩
set_option maxRecDepth 20000 in
theorem treeAnew_no2 (k : List UInt8) (h : Nat) (v : Value) (ls : List (List UInt8)) (c : Nat) (va : Value) (acs : List Wr) (ca : Nat) (w : World) (hG : (glb 0).holds w) (hl_k : k.length = 32) (hr_ls : (rd v 32 ls.length c (ls.flatMap bv)).holds w) (ho_ls : ∀ x, x ∈ ls → x.length = 32) (hr_acs : (rd va 34 acs.length ca (acs.flatMap wcl)).holds w) (ho_acs : ∀ x, x ∈ acs → OkAc x) (hh5 : 1 ≤ h ∧ h ≤ 5) (hm : ¬ min ls.length 32 ≤ 2 ^ h) : Calls Tryd.prog 3 #[.agg (bv k).toArray, .agg ([[.int .i64 ((h : Nat) : Int)], [v]] : List (List Value)).flatten.toArray, va] w fun e w' => e = .returned (.bool true) ∧ Mem w [] w' [] := by
  have hll : (ls.take (min ls.length 32)).length = min ls.length 32 := by rw [List.length_take]; omega
  have hoL : OkTs (ls.take (min ls.length 32)) := fun x hx => ho_ls x (List.mem_of_mem_take hx)
  have hM : Mem w [] w [rd v 32 ls.length c (ls.flatMap bv), rd va 34 acs.length ca (acs.flatMap wcl), glb 0] := Mem.startR w (fun g hg => by
    simp only [List.mem_cons, List.not_mem_nil, or_false] at hg
    rcases hg with rfl | rfl | rfl
    · exact ⟨hr_ls, rfl⟩
    · exact ⟨hr_acs, rfl⟩
    · exact ⟨hG, rfl⟩)
  refine f_enter 166 Tryd.func3 rfl rfl rfl ?_
  intro a hE
  replace hE : Env a 166 [(0, _), (1, _), (2, _)] := hE
  refine wp_seq_k (fun K1 hK1 => ?_)
  refine wp_plain [false, false, true] rfl rfl ?_
  refine s_box (ss := [bv k]) [32] hE hM rfl (by simp [Value.cells]) (by simp [*]) rfl ?_; clear hE a; intro a b3 w1 hE hM'
  clear hM; have hM := hM'; clear hM'
  refine s_box (ss := [[.int .i64 ((h : Nat) : Int)], [v]]) [1, 1] hE hM rfl rfl (by simp [*]) rfl ?_; clear hE a; intro a b4 w2 hE hM'
  clear hM; have hM := hM'; clear hM'
  refine s_assign hE rfl rfl ?_; clear hE a; intro a hE
  refine q_nil ?_
  replace hE : Env a 166 [(2, _), (3, _), (4, _), (6, _)] := hE.sel [2, 3, 4, 6] rfl
  refine hK1 _ _ ?_
  refine wp_seq_k (fun K2 hK2 => ?_)
  refine wp_seq_k (fun K3 hK3 => ?_)
  refine wp_plain [true, true, true, true, true, true, true, true] rfl rfl ?_
  refine s_fieldAddr hE rfl fo26_0 rfl ?_; clear hE a; intro a hE
  refine s_load1 hE rfl (hM.get 0 rfl) rfl one3 (by intro X h; cases h) rfl ?_; clear hE a; intro a hE
  refine s_bin hE rfl rfl bin_gtr rfl ?_; clear hE a; intro a hE
  refine s_move hE rfl rfl ?_; clear hE a; intro a hE
  replace hE := hE.cast 24 rfl (show _ = Value.bool false from (congrArg Value.bool (decide_eq_false (by omega))))
  refine g_no (b := false) hE rfl rfl rfl ?_; clear hE a; intro a hE
  refine g_no (b := false) hE rfl rfl rfl ?_; clear hE a; intro a hE
  refine g_no (b := false) hE rfl rfl rfl ?_; clear hE a; intro a hE
  refine s_pickf hE rfl rfl rfl ?_; clear hE a; intro a hE
  refine q_nil ?_
  replace hE : Env a 166 [(2, _), (3, _), (4, _), (6, _), (28, _)] := hE.sel [2, 3, 4, 6, 28] rfl
  refine hK3 _ _ ?_
  refine wp_cond_false (hE.eval rfl) ?_
  refine wp_skip ?_
  refine hK2 _ _ ?_
  refine wp_seq_k (fun K4 hK4 => ?_)
  refine wp_plain [false, true, true, true, true, true, true, true, false, true] rfl rfl ?_
  refine s_buildSlice (xs := []) (([] : List (List UInt8)).flatMap bv) hE hM sl24 rfl rfl rfl (by intro v hv; cases hv) rfl rfl rfl rfl ?_; clear hE a; intro a v30 w3 hE hM'
  clear hM; have hM := hM'; clear hM'
  replace hM := hM.ownEq (m' := ([] : List (List UInt8)).length) (cs' := ([] : List (List UInt8)).flatMap bv) rfl rfl
  refine s_fieldAddr hE rfl fo26_1 rfl ?_; clear hE a; intro a hE
  refine s_load1 hE rfl (hM.get 1 rfl) rfl one24 (by intro X h; cases h) rfl ?_; clear hE a; intro a hE
  refine s_fieldAddr hE rfl fo26_1 rfl ?_; clear hE a; intro a hE
  refine s_load1 hE rfl (hM.get 1 rfl) rfl one24 (by intro X h; cases h) rfl ?_; clear hE a; intro a hE
  refine s_len hE rfl Tryd.underlying24 (rd_slice (hM.get 3 rfl)) rfl ?_; clear hE a; intro a hE
  refine s_min hE rfl rfl rfl ?_; clear hE a; intro a hE
  replace hE := hE.cast 36 rfl (show _ = Value.int .i64 ((min ls.length 32 : Nat) : Int) from congrArg (Value.int .i64) (by split <;> omega))
  have hcap37 := rd_len (hM.get 3 rfl)
  refine s_slice (l := 0) (h := min ls.length 32) (mx' := c) hE rfl (hM.get 3 rfl) slt24 rfl ⟨_, rfl⟩ rfl (by simp) (Nat.zero_le _) (by first | omega | (simp; omega) | decide +kernel) (by first | omega | (simp; omega) | decide +kernel) (Nat.le_refl _) rfl ?_; clear hE a; intro a v37 hE hr37 hvb37
  replace hr37 := rd_takeR (f := bv) (ls := ls) (fun x hx => ((bv_length _).trans (ho_ls x hx))) (by first | omega | (simp; omega) | decide +kernel) hr37
  replace hM := hM.addPart 3 rfl hr37 hvb37; clear hr37
  replace hM : Mem _ _ w3 [_, _, _, _, _, _, _] := hM.pick [1, 0, 2, 3, 4, 5, 6] rfl
  refine s_append hE rfl rfl hM sl24 (Src.rd Tryd.underlying24 (hM.get 1 rfl) (bvs_one _)) (len47 (by first | omega | (simp; done) | (simp; omega))) (by first | omega | (simp; done) | (simp; omega)) (by intro X h; cases h) rfl ?_; clear hE a; intro a v38 w4 hE hM'; clear hM; have hM := hM'; clear hM'
  replace hM := hM.ownEq (m' := (ls.take (min ls.length 32)).length) (cs' := (ls.take (min ls.length 32)).flatMap bv) (by simp) rfl
  refine s_assign hE rfl rfl ?_; clear hE a; intro a hE
  refine q_nil ?_
  replace hE : Env a 166 [(2, _), (3, _), (4, _), (6, _), (7, _), (28, _)] := hE.sel [2, 3, 4, 6, 7, 28] rfl
  refine hK4 _ _ ?_
  refine wp_seq_k (fun K5 hK5 => ?_)
  refine wp_plain [true, true, true, true, false, true, true, true, true, true] rfl rfl ?_
  refine s_loadN hE rfl (hM.get 3 rfl) row23 rfl (by intro X h; cases h) rfl ?_; clear hE a; intro a hE
  refine s_fieldAddr hE rfl fo26_0 rfl ?_; clear hE a; intro a hE
  refine s_load1 hE rfl (hM.get 2 rfl) rfl one3 (by intro X h; cases h) rfl ?_; clear hE a; intro a hE
  refine s_move hE rfl rfl ?_; clear hE a; intro a hE
  obtain ⟨cq1, hq1⟩ := own_rd (hM.get 0 rfl)
  refine s_call hE rfl Tryd.call10 (tnew_no2 k h _ (ls.take (min ls.length 32)) _ _ hl_k hq1 (ok_take ho_ls) (by omega) (by rw [hll]; exact hm)) rfl ?_
  rintro e w5 ⟨rfl, hN⟩
  refine ⟨_, rfl, trivial, ?_⟩; clear hE a; intro a hE
  replace hM : Mem _ _ w5 [_, _, _, _, _, _, _] := hM.call0 hN trivial; clear hN
  refine s_move hE rfl rfl ?_; clear hE a; intro a hE
  refine s_extract hE rfl rfl rfl ?_; clear hE a; intro a hE
  refine s_extract hE rfl rfl rfl ?_; clear hE a; intro a hE
  refine s_assign hE rfl rfl ?_; clear hE a; intro a hE
  refine s_assign hE rfl rfl ?_; clear hE a; intro a hE
  refine q_nil ?_
  replace hE : Env a 166 [(2, _), (3, _), (4, _), (6, _), (7, _), (8, _), (9, _), (28, _)] := hE.sel [2, 3, 4, 6, 7, 8, 9, 28] rfl
  refine hK5 _ _ ?_
  refine wp_seq_k (fun K6 hK6 => ?_)
  refine wp_seq_k (fun K7 hK7 => ?_)
  refine wp_plain [true, true] rfl rfl ?_
  refine s_move hE rfl rfl ?_; clear hE a; intro a hE
  refine s_bin hE rfl rfl bin_neq rfl ?_; clear hE a; intro a hE
  replace hE := hE.cast 48 rfl (show _ = Value.bool true from (congrArg Value.bool (by decide)))
  refine q_nil ?_
  replace hE : Env a 166 [(2, _), (3, _), (4, _), (6, _), (7, _), (8, _), (28, _), (48, _)] := hE.sel [2, 3, 4, 6, 7, 8, 28, 48] rfl
  refine hK7 _ _ ?_
  refine wp_cond_true (hE.eval rfl) ?_
  refine wp_seq_k (fun K8 hK8 => ?_)
  refine wp_plain [false, true] rfl rfl ?_
  refine s_call hE rfl Tryd.call9 (works_c  _ (hM.get 6 rfl)) rfl ?_
  rintro e w6 ⟨rfl, hN⟩
  refine ⟨_, rfl, trivial, ?_⟩; clear hE a; intro a hE
  replace hM : Mem _ _ w6 [_, _, _, _, _, _, _] := hM.call0 hN trivial; clear hN
  refine s_assign hE rfl rfl ?_; clear hE a; intro a hE
  refine q_nil ?_
  replace hE : Env a 166 [(2, _), (3, _), (4, _), (6, _), (7, _), (8, _), (28, _), (48, _)] := hE.sel [2, 3, 4, 6, 7, 8, 28, 48] rfl
  refine hK8 _ _ ?_
  refine wp_ret ?_
  refine q_then_r ?_
  refine f_ret1 hE rfl rfl ?_
  exact ⟨(by first | rfl | (simp; done)), hM.pick [] rfl⟩
set_option maxRecDepth 20000 in
set_option maxHeartbeats 2000000 in
theorem treeAnew_ok (k : List UInt8) (h : Nat) (v : Value) (ls : List (List UInt8)) (c : Nat) (va : Value) (acs : List Wr) (ca : Nat) (w : World) (hG : (glb 0).holds w) (hl_k : k.length = 32) (hr_ls : (rd v 32 ls.length c (ls.flatMap bv)).holds w) (ho_ls : ∀ x, x ∈ ls → x.length = 32) (hr_acs : (rd va 34 acs.length ca (acs.flatMap wcl)).holds w) (ho_acs : ∀ x, x ∈ acs → OkAc x) (hh5 : 1 ≤ h ∧ h ≤ 5) (hm : min ls.length 32 ≤ 2 ^ h) : Calls Tryd.prog 3 #[.agg (bv k).toArray, .agg ([[.int .i64 ((h : Nat) : Int)], [v]] : List (List Value)).flatten.toArray, va] w fun e w' => e = .returned (.bool true) ∧ Mem w [] w' [] := by
  have hh : 1 ≤ h ∧ h ≤ 12 := by omega
  have hpw := two_pow_le hh
  have hpw1 := hpw.1
  have hpw2 := hpw.2
  have hll : (ls.take (min ls.length 32)).length = min ls.length 32 := by rw [List.length_take]; omega
  have hoL : OkTs (ls.take (min ls.length 32)) := fun x hx => ho_ls x (List.mem_of_mem_take hx)
  have hM : Mem w [] w [rd v 32 ls.length c (ls.flatMap bv), rd va 34 acs.length ca (acs.flatMap wcl), glb 0] := Mem.startR w (fun g hg => by
    simp only [List.mem_cons, List.not_mem_nil, or_false] at hg
    rcases hg with rfl | rfl | rfl
    · exact ⟨hr_ls, rfl⟩
    · exact ⟨hr_acs, rfl⟩
    · exact ⟨hG, rfl⟩)
  refine f_enter 166 Tryd.func3 rfl rfl rfl ?_
  intro a hE
  replace hE : Env a 166 [(0, _), (1, _), (2, _)] := hE
  refine wp_seq_k (fun K1 hK1 => ?_)
  refine wp_plain [false, false, true] rfl rfl ?_
  refine s_box (ss := [bv k]) [32] hE hM rfl (by simp [Value.cells]) (by simp [*]) rfl ?_; clear hE a; intro a b3 w1 hE hM'
  clear hM; have hM := hM'; clear hM'
  refine s_box (ss := [[.int .i64 ((h : Nat) : Int)], [v]]) [1, 1] hE hM rfl rfl (by simp [*]) rfl ?_; clear hE a; intro a b4 w2 hE hM'
  clear hM; have hM := hM'; clear hM'
  refine s_assign hE rfl rfl ?_; clear hE a; intro a hE
  refine q_nil ?_
  replace hE : Env a 166 [(2, _), (3, _), (4, _), (6, _)] := hE.sel [2, 3, 4, 6] rfl
  refine hK1 _ _ ?_
  refine wp_seq_k (fun K2 hK2 => ?_)
  refine wp_seq_k (fun K3 hK3 => ?_)
  refine wp_plain [true, true, true, true, true, true, true, true] rfl rfl ?_
  refine s_fieldAddr hE rfl fo26_0 rfl ?_; clear hE a; intro a hE
  refine s_load1 hE rfl (hM.get 0 rfl) rfl one3 (by intro X h; cases h) rfl ?_; clear hE a; intro a hE
  refine s_bin hE rfl rfl bin_gtr rfl ?_; clear hE a; intro a hE
  refine s_move hE rfl rfl ?_; clear hE a; intro a hE
  replace hE := hE.cast 24 rfl (show _ = Value.bool false from (congrArg Value.bool (decide_eq_false (by omega))))
  refine g_no (b := false) hE rfl rfl rfl ?_; clear hE a; intro a hE
  refine g_no (b := false) hE rfl rfl rfl ?_; clear hE a; intro a hE
  refine g_no (b := false) hE rfl rfl rfl ?_; clear hE a; intro a hE
  refine s_pickf hE rfl rfl rfl ?_; clear hE a; intro a hE
  refine q_nil ?_
  replace hE : Env a 166 [(2, _), (3, _), (4, _), (6, _), (28, _)] := hE.sel [2, 3, 4, 6, 28] rfl
  refine hK3 _ _ ?_
  refine wp_cond_false (hE.eval rfl) ?_
  refine wp_skip ?_
  refine hK2 _ _ ?_
  refine wp_seq_k (fun K4 hK4 => ?_)
  refine wp_plain [false, true, true, true, true, true, true, true, false, true] rfl rfl ?_
  refine s_buildSlice (xs := []) (([] : List (List UInt8)).flatMap bv) hE hM sl24 rfl rfl rfl (by intro v hv; cases hv) rfl rfl rfl rfl ?_; clear hE a; intro a v30 w3 hE hM'
  clear hM; have hM := hM'; clear hM'
  replace hM := hM.ownEq (m' := ([] : List (List UInt8)).length) (cs' := ([] : List (List UInt8)).flatMap bv) rfl rfl
  refine s_fieldAddr hE rfl fo26_1 rfl ?_; clear hE a; intro a hE
  refine s_load1 hE rfl (hM.get 1 rfl) rfl one24 (by intro X h; cases h) rfl ?_; clear hE a; intro a hE
  refine s_fieldAddr hE rfl fo26_1 rfl ?_; clear hE a; intro a hE
  refine s_load1 hE rfl (hM.get 1 rfl) rfl one24 (by intro X h; cases h) rfl ?_; clear hE a; intro a hE
  refine s_len hE rfl Tryd.underlying24 (rd_slice (hM.get 3 rfl)) rfl ?_; clear hE a; intro a hE
  refine s_min hE rfl rfl rfl ?_; clear hE a; intro a hE
  replace hE := hE.cast 36 rfl (show _ = Value.int .i64 ((min ls.length 32 : Nat) : Int) from congrArg (Value.int .i64) (by split <;> omega))
  have hcap37 := rd_len (hM.get 3 rfl)
  refine s_slice (l := 0) (h := min ls.length 32) (mx' := c) hE rfl (hM.get 3 rfl) slt24 rfl ⟨_, rfl⟩ rfl (by simp) (Nat.zero_le _) (by first | omega | (simp; omega) | decide +kernel) (by first | omega | (simp; omega) | decide +kernel) (Nat.le_refl _) rfl ?_; clear hE a; intro a v37 hE hr37 hvb37
  replace hr37 := rd_takeR (f := bv) (ls := ls) (fun x hx => ((bv_length _).trans (ho_ls x hx))) (by first | omega | (simp; omega) | decide +kernel) hr37
  replace hM := hM.addPart 3 rfl hr37 hvb37; clear hr37
  replace hM : Mem _ _ w3 [_, _, _, _, _, _, _] := hM.pick [1, 0, 2, 3, 4, 5, 6] rfl
  refine s_append hE rfl rfl hM sl24 (Src.rd Tryd.underlying24 (hM.get 1 rfl) (bvs_one _)) (len47 (by first | omega | (simp; done) | (simp; omega))) (by first | omega | (simp; done) | (simp; omega)) (by intro X h; cases h) rfl ?_; clear hE a; intro a v38 w4 hE hM'; clear hM; have hM := hM'; clear hM'
  replace hM := hM.ownEq (m' := (ls.take (min ls.length 32)).length) (cs' := (ls.take (min ls.length 32)).flatMap bv) (by simp) rfl
  refine s_assign hE rfl rfl ?_; clear hE a; intro a hE
  refine q_nil ?_
  replace hE : Env a 166 [(2, _), (3, _), (4, _), (6, _), (7, _), (28, _)] := hE.sel [2, 3, 4, 6, 7, 28] rfl
  refine hK4 _ _ ?_
  refine wp_seq_k (fun K5 hK5 => ?_)
  refine wp_plain [true, true, true, true, false, true, true, true, true, true] rfl rfl ?_
  refine s_loadN hE rfl (hM.get 3 rfl) row23 rfl (by intro X h; cases h) rfl ?_; clear hE a; intro a hE
  refine s_fieldAddr hE rfl fo26_0 rfl ?_; clear hE a; intro a hE
  refine s_load1 hE rfl (hM.get 2 rfl) rfl one3 (by intro X h; cases h) rfl ?_; clear hE a; intro a hE
  refine s_move hE rfl rfl ?_; clear hE a; intro a hE
  obtain ⟨cq1, hq1⟩ := own_rd (hM.get 0 rfl)
  refine s_call hE rfl Tryd.call10 (tnew_c k h _ (ls.take (min ls.length 32)) _ _ (hM.get 6 rfl) hq1 hl_k (ok_take ho_ls) (by first | decide | omega) (by rw [hll]; exact hm)) rfl ?_
  rintro e w5 ⟨b44, u44, rfl, hN⟩
  refine ⟨_, rfl, trivial, ?_⟩; clear hE a; intro a hE
  replace hM : Mem _ _ w5 [_, _, _, _, _, _, _, _, _] := hM.call0 hN ⟨rfl, rfl, trivial⟩; clear hN
  refine s_move hE rfl rfl ?_; clear hE a; intro a hE
  refine s_extract hE rfl rfl rfl ?_; clear hE a; intro a hE
  refine s_extract hE rfl rfl rfl ?_; clear hE a; intro a hE
  refine s_assign hE rfl rfl ?_; clear hE a; intro a hE
  refine s_assign hE rfl rfl ?_; clear hE a; intro a hE
  refine q_nil ?_
  replace hE : Env a 166 [(2, _), (3, _), (4, _), (6, _), (7, _), (8, _), (9, _), (28, _)] := hE.sel [2, 3, 4, 6, 7, 8, 9, 28] rfl
  refine hK5 _ _ ?_
  refine wp_seq_k (fun K6 hK6 => ?_)
  refine wp_seq_k (fun K7 hK7 => ?_)
  refine wp_plain [true, true] rfl rfl ?_
  refine s_move hE rfl rfl ?_; clear hE a; intro a hE
  refine s_bin hE rfl rfl bin_neq rfl ?_; clear hE a; intro a hE
  replace hE := hE.cast 48 rfl (show _ = Value.bool false from (congrArg Value.bool (by decide)))
  refine q_nil ?_
  replace hE : Env a 166 [(2, _), (3, _), (4, _), (6, _), (7, _), (8, _), (28, _), (48, _)] := hE.sel [2, 3, 4, 6, 7, 8, 28, 48] rfl
  refine hK7 _ _ ?_
  refine wp_cond_false (hE.eval rfl) ?_
  refine wp_skip ?_
  refine hK6 _ _ ?_
  refine wp_seq_k (fun K8 hK8 => ?_)
  refine wp_plain [true, true, true, true, true] rfl rfl ?_
  refine s_fieldAddr hE rfl fo26_0 rfl ?_; clear hE a; intro a hE
  refine s_load1 hE rfl (hM.get 4 rfl) rfl one3 (by intro X h; cases h) rfl ?_; clear hE a; intro a hE
  refine s_conv hE rfl (cnv_int Tryd.underlying3 Tryd.underlying33 (wrap_u64 (by omega) (by omega))) rfl ?_; clear hE a; intro a hE
  refine s_bin hE rfl rfl (bin_one_shl (by omega)) rfl ?_; clear hE a; intro a hE
  refine s_assign hE rfl rfl ?_; clear hE a; intro a hE
  refine q_nil ?_
  replace hE : Env a 166 [(2, _), (3, _), (4, _), (6, _), (7, _), (8, _), (10, _), (28, _), (48, _)] := hE.sel [2, 3, 4, 6, 7, 8, 10, 28, 48] rfl
  refine hK8 _ _ ?_
  refine wp_seq_k (fun K9 hK9 => ?_)
  refine wp_block ?_
  replace hM : Mem _ _ w5 [_, _, _, _, _, _, _, _, _] := hM.pick [2, 0, 1, 3, 4, 5, 6, 7, 8] rfl
  replace hM := Mem.ownRowsEq (f := bv) (ls := ls.take (min ls.length 32)) (ms := (ls.take (min ls.length 32)) ++ List.replicate 0 zTg) hM (by rw [List.replicate_zero, List.append_nil])
  replace hM : Mem _ _ w5 [_, _, _, _, _, _, _, _, _] := hM.pick [1, 2, 0, 3, 4, 5, 6, 7, 8] rfl
  refine c_loop (fun (i : Nat) a w' => i ≤ 2 ^ h - min ls.length 32 ∧ ∃ vl7, Env a 166 [(2, va), (3, .pointer (some ⟨b3, 0, none⟩)), (4, .pointer (some ⟨b4, 0, none⟩)), (6, .bool false), (7, vl7), (8, .pointer (some ⟨b44, 0, none⟩)), (10, .int .i64 ((2 ^ h : Nat) : Int)), (28, .bool false), (48, .bool false)] ∧ Mem w [] w' [blk b44 [bv k, [.int .i64 ((h : Nat) : Int)], [u44]] [32, 1, 1] 73, own u44 32 ((allT k (2 ^ h) (padL (2 ^ h) (ls.take (min ls.length 32)))).length) ((allT k (2 ^ h) (padL (2 ^ h) (ls.take (min ls.length 32)))).flatMap bv), own vl7 32 (((ls.take (min ls.length 32)) ++ List.replicate i zTg).length) (((ls.take (min ls.length 32)) ++ List.replicate i zTg).flatMap bv), rd v37 32 ((ls.take (min ls.length 32)).length) (c - 0) ((ls.take (min ls.length 32)).flatMap bv), blk b4 [[.int .i64 ((h : Nat) : Int)], [v]] [1, 1] 26, blk b3 [bv k] [32] 23, rd v 32 ls.length c (ls.flatMap bv), rd va 34 acs.length ca (acs.flatMap wcl), glb 0]) (fun i => 2 ^ h - min ls.length 32 - i) 0 ⟨Nat.zero_le _, _, hE.sel [2, 3, 4, 6, 7, 8, 10, 28, 48] rfl, hM⟩ ?_
  clear hE hM a; rintro i a w6 ⟨hi, vl7, hE, hM⟩
  refine wp_seq_k (fun K10 hK10 => ?_)
  refine wp_seq_k (fun K11 hK11 => ?_)
  refine wp_plain [true, true, true, true] rfl rfl ?_
  refine s_move hE rfl rfl ?_; clear hE a; intro a hE
  refine s_len hE rfl Tryd.underlying24 (own_slice (hM.get 2 rfl)) rfl ?_; clear hE a; intro a hE
  have hgl : ((ls.take (min ls.length 32)) ++ List.replicate i zTg).length = min ls.length 32 + i := by rw [List.length_append, hll, List.length_replicate]
  refine s_move hE rfl rfl ?_; clear hE a; intro a hE
  refine s_bin hE rfl rfl bin_lss rfl ?_; clear hE a; intro a hE
  refine q_nil ?_
  replace hE : Env a 166 [(2, _), (3, _), (4, _), (6, _), (7, _), (8, _), (10, _), (28, _), (48, _), (57, _)] := hE.sel [2, 3, 4, 6, 7, 8, 10, 28, 48, 57] rfl
  refine hK11 _ _ ?_
  refine hE.split 57 rfl (fun hb57 hE' => ?_) (fun hb57 hE' => ?_)
  · replace hE := hE'; clear hE'
    replace hb57 := of_decide_eq_true hb57
    replace hb57 : (((ls.take (min ls.length 32)) ++ List.replicate i zTg).length) < (2 ^ h) := by omega
    replace hb57 : i < 2 ^ h - min ls.length 32 := by omega
    refine wp_cond_true (hE.eval rfl) ?_
    refine wp_skip ?_
    refine hK10 _ _ ?_
    refine wp_block ?_
    refine wp_plain [true, true, false, false, true] rfl rfl ?_
    refine s_move hE rfl rfl ?_; clear hE a; intro a hE
    refine s_build (r := .agg (bv (List.replicate 32 (0 : UInt8))).toArray) _ hE rfl (fun w => by kernel_rfl) rfl ?_; clear hE a; intro a hE
    have hro60_0 : (List.replicate 32 (0 : UInt8)).length = 32 := (by first | (simp; done) | (simp [*]; done) | (simp; omega))
    refine s_buildSlice (xs := [.tmp 59]) (([List.replicate 32 (0 : UInt8)] : List (List UInt8)).flatMap bv) hE hM sl24 rfl rfl rfl (by intro v hv; simp only [List.mem_cons, List.not_mem_nil, or_false] at hv; rcases hv with rfl; exact ((bv_length _).trans hro60_0)) (by simp [Value.cells]) rfl rfl rfl ?_; clear hE a; intro a v60 w7 hE hM'
    clear hM; have hM := hM'; clear hM'
    replace hM := hM.ownEq (m' := ([List.replicate 32 (0 : UInt8)] : List (List UInt8)).length) (cs' := ([List.replicate 32 (0 : UInt8)] : List (List UInt8)).flatMap bv) rfl rfl
    replace hM : Mem _ _ w7 [_, _, _, _, _, _, _, _, _, _] := hM.pick [3, 0, 1, 2, 4, 5, 6, 7, 8, 9] rfl
    obtain ⟨cq2, hq2⟩ := own_rd (hM.get 1 rfl)
    refine s_append hE rfl rfl hM sl24 (Src.rd Tryd.underlying24 hq2 (bvs_one _)) (len47 (by first | omega | (simp; done) | (simp; omega))) (by first | omega | (simp; done) | (simp; omega)) (by intro X h; cases h) rfl ?_; clear hE a; intro a v61 w8 hE hM'; clear hM; have hM := hM'; clear hM'
    replace hM := Mem.ownRowsL (f := bv) (ls := (ls.take (min ls.length 32)) ++ List.replicate i zTg) (ms := ([List.replicate 32 (0 : UInt8)] : List (List UInt8))) hM rfl rfl
    replace hM : Mem _ _ w8 [_, _, _, _, _, _, _, _, _] := hM.pick [0, 2, 3, 4, 5, 6, 7, 8, 9] rfl
    refine s_assign hE rfl rfl ?_; clear hE a; intro a hE
    refine q_nil ?_
    replace hE : Env a 166 [(2, _), (3, _), (4, _), (6, _), (7, _), (8, _), (10, _), (28, _), (48, _), (57, _)] := hE.sel [2, 3, 4, 6, 7, 8, 10, 28, 48, 57] rfl
    refine q_block_n ?_
    replace hM := Mem.ownRowsEq (f := bv) (ls := ((ls.take (min ls.length 32)) ++ List.replicate i zTg) ++ ([List.replicate 32 (0 : UInt8)] : List (List UInt8))) (ms := (ls.take (min ls.length 32)) ++ List.replicate (i + 1) zTg) hM pad_grow
    replace hM : Mem _ _ w8 [_, _, _, _, _, _, _, _, _] := hM.pick [0, 1, 2, 3, 4, 5, 6, 7, 8] rfl
    replace hM : Mem _ _ w8 [_, _, _, _, _, _, _, _, _] := hM.pick [1, 2, 0, 3, 4, 5, 6, 7, 8] rfl
    exact ⟨i + 1, ⟨by omega, _, hE.sel [2, 3, 4, 6, 7, 8, 10, 28, 48] rfl, hM⟩, by omega⟩
  · replace hE := hE'; clear hE'
    replace hb57 := of_decide_eq_false hb57
    replace hb57 : ¬ ((((ls.take (min ls.length 32)) ++ List.replicate i zTg).length) < (2 ^ h)) := by omega
    obtain rfl : 2 ^ h - min ls.length 32 = i := by omega
    replace hM : Mem _ _ w6 [_, _, _, _, _, _, _, _, _] := hM.pick [2, 0, 1, 3, 4, 5, 6, 7, 8] rfl
    replace hM := Mem.ownRowsEq (f := bv) (ls := (ls.take (min ls.length 32)) ++ List.replicate (2 ^ h - min ls.length 32) zTg) (ms := padL (2 ^ h) (ls.take (min ls.length 32))) hM (by unfold padL; rw [hll])
    refine wp_cond_false (hE.eval rfl) ?_
    refine wp_exit ?_
    refine q_then_e ?_
    refine q_then_e ?_
    refine q_block_x ?_
    refine hK9 _ _ ?_
    refine wp_seq_k (fun K12 hK12 => ?_)
    refine wp_seq_k (fun K13 hK13 => ?_)
    refine wp_plain [true] rfl rfl ?_
    refine s_assign hE rfl rfl ?_; clear hE a; intro a hE
    refine q_nil ?_
    refine hK13 _ _ ?_
    refine wp_block ?_
    replace hM : Mem _ _ w6 [_, _, _, _, _, _, _, _, _] := hM.pick [2, 0, 1, 3, 4, 5, 6, 7, 8] rfl
    replace hM := Mem.ownRowsEq (f := bv) (ls := allT k (2 ^ h) (padL (2 ^ h) (ls.take (min ls.length 32)))) (ms := allT k (2 ^ h) (playA h (padL (2 ^ h) (ls.take (min ls.length 32))) acs 0)) hM rfl
    replace hM : Mem _ _ w6 [_, _, _, _, _, _, _, _, _] := hM.pick [1, 0, 2, 3, 4, 5, 6, 7, 8] rfl
    replace hM := Mem.ownRowsEq (f := bv) (ls := padL (2 ^ h) (ls.take (min ls.length 32))) (ms := playA h (padL (2 ^ h) (ls.take (min ls.length 32))) acs 0) hM rfl
    replace hM : Mem _ _ w6 [_, _, _, _, _, _, _, _, _] := hM.pick [0, 2, 1, 3, 4, 5, 6, 7, 8] rfl
    refine c_loop (fun (ja : Nat) a w' => ja ≤ min acs.length 20 ∧ Env a 166 [(2, va), (3, .pointer (some ⟨b3, 0, none⟩)), (4, .pointer (some ⟨b4, 0, none⟩)), (6, .bool false), (7, vl7), (8, .pointer (some ⟨b44, 0, none⟩)), (10, .int .i64 ((2 ^ h : Nat) : Int)), (11, .int .i64 ((ja : Nat) : Int)), (28, .bool false), (48, .bool false), (57, .bool false)] ∧ Mem w [] w' [own vl7 32 ((playA h (padL (2 ^ h) (ls.take (min ls.length 32))) acs ja).length) ((playA h (padL (2 ^ h) (ls.take (min ls.length 32))) acs ja).flatMap bv), blk b44 [bv k, [.int .i64 ((h : Nat) : Int)], [u44]] [32, 1, 1] 73, own u44 32 ((allT k (2 ^ h) (playA h (padL (2 ^ h) (ls.take (min ls.length 32))) acs ja)).length) ((allT k (2 ^ h) (playA h (padL (2 ^ h) (ls.take (min ls.length 32))) acs ja)).flatMap bv), rd v37 32 ((ls.take (min ls.length 32)).length) (c - 0) ((ls.take (min ls.length 32)).flatMap bv), blk b4 [[.int .i64 ((h : Nat) : Int)], [v]] [1, 1] 26, blk b3 [bv k] [32] 23, rd v 32 ls.length c (ls.flatMap bv), rd va 34 acs.length ca (acs.flatMap wcl), glb 0]) (fun ja => min acs.length 20 - ja) 0 ⟨Nat.zero_le _, hE.sel [2, 3, 4, 6, 7, 8, 10, 11, 28, 48, 57] rfl, hM⟩ ?_
    clear hE hM a; rintro ja a w7 ⟨hja, hE, hM⟩
    refine wp_seq_k (fun K14 hK14 => ?_)
    refine wp_seq_k (fun K15 hK15 => ?_)
    refine wp_plain [true, true, true, true, true, true, true, true] rfl rfl ?_
    refine s_move hE rfl rfl ?_; clear hE a; intro a hE
    have hpn : (playA h (padL (2 ^ h) (ls.take (min ls.length 32))) acs ja).length = 2 ^ h := (playA_inv (h := h) (OkTs.pad (n := 2 ^ h) hoL) ho_acs (show ja ≤ acs.length by omega)).2.trans (padL_length (by rw [hll]; exact hm))
    refine s_move hE rfl rfl ?_; clear hE a; intro a hE
    refine s_len hE rfl Tryd.underlying27 (rd_slice (hM.get 7 rfl)) rfl ?_; clear hE a; intro a hE
    refine s_bin hE rfl rfl bin_lss rfl ?_; clear hE a; intro a hE
    refine s_move hE rfl rfl ?_; clear hE a; intro a hE
    refine hE.split 66 rfl (fun hb66 hE' => ?_) (fun hb66 hE' => ?_)
    · replace hE := hE'; clear hE'
      replace hb66 := of_decide_eq_true hb66
      replace hb66 : ja < acs.length := by omega
      refine g_yes hE rfl rfl ?_
      refine s_move hE rfl rfl ?_; clear hE a; intro a hE
      refine g_yes hE rfl rfl ?_
      refine s_bin hE rfl rfl bin_lss rfl ?_; clear hE a; intro a hE
      refine s_pickt hE rfl rfl rfl ?_; clear hE a; intro a hE
      refine q_nil ?_
      replace hE : Env a 166 [(2, _), (3, _), (4, _), (6, _), (7, _), (8, _), (10, _), (11, _), (28, _), (48, _), (57, _), (69, _)] := hE.sel [2, 3, 4, 6, 7, 8, 10, 11, 28, 48, 57, 69] rfl
      refine hK15 _ _ ?_
      refine hE.split 69 rfl (fun hb69 hE' => ?_) (fun hb69 hE' => ?_)
      · replace hE := hE'; clear hE'
        replace hb69 := of_decide_eq_true hb69
        replace hb69 : ja < 20 := by omega
        refine wp_cond_true (hE.eval rfl) ?_
        refine wp_skip ?_
        refine hK14 _ _ ?_
        refine wp_seq_k (fun K16 hK16 => ?_)
        refine wp_block ?_
        refine wp_seq_k (fun K17 hK17 => ?_)
        refine wp_treeM hM (by kernel_rfl) (fun _ => True) (fun _ => True) (.re [(0, true), (1, true), (2, true), (3, true), (4, true), (6, true), (7, true), (8, true), (9, true), (5, true), (10, true), (11, false), (12, true), (13, true), (14, true), (15, true), (16, true)] (.fl 9 (.weak (.fl 2 (.cut (.or 11 (.cut (.re [(12, true), (13, true), (14, true), (15, true), (16, true)] (.weak (.leaf 5)))) (.stop))))))) [(0, true), (1, true), (2, true), (3, true), (4, true), (6, true), (7, true), (8, true), (9, true), (5, true), (10, true), (11, false), (12, true), (13, true), (14, true), (15, true), (16, true)] [(3, [(4, 3), (5, 4), (11, 5), (12, 11), (13, 12), (14, 12), (15, 3), (16, 3)]), (4, [(5, 4), (11, 5), (12, 11), (13, 12), (14, 12), (15, 4), (16, 4)]), (5, [(11, 5), (12, 11), (13, 12), (14, 12), (15, 5), (16, 5)]), (8, [(9, 8), (10, 9), (11, 10), (12, 11), (13, 12), (14, 12), (15, 8), (16, 8)]), (9, [(10, 9), (11, 10), (12, 11), (13, 12), (14, 12), (15, 9), (16, 9)]), (10, [(11, 10), (12, 11), (13, 12), (14, 12), (15, 10), (16, 10)]), (11, [(12, 11), (13, 12), (14, 12), (15, 11), (16, 11)])] (by kernel_rfl) ?_
        intro w8 hM' hww8; clear hM; have hM := hM'; clear hM'
        refine o_re ?_
        refine o_fl rfl ?_
        refine s_move hE rfl rfl ?_; clear hE a; intro a hE
        refine s_move hE rfl rfl ?_; clear hE a; intro a hE
        refine s_move hE rfl rfl ?_; clear hE a; intro a hE
        refine s_indexRd (j := ja) hE rfl (hM.get 7 rfl) rfl slt27 (by first | rfl | omega) (by first | omega | (simp; omega) | (simp [*]; omega)) rfl ?_; clear hE a; intro a p76 hE hc76 hp76
        have hlj76 : ja < acs.length := (by first | omega | (simp; omega))
        have hok76 := ho_acs _ (getD_mem (d := ac0) hlj76)
        rw [flat_elem (d := ac0) (fun x hx => acl_len ((ho_acs x hx)).1) hlj76] at hc76
        refine s_fieldAtN (m := 1) hE rfl hc76 fo39_1 rfl ?_; clear hE a; intro a p77 hE hc77 hp77
        replace hc77 : (cellsAt _ [.int .i64 ((acs.getD ja ac0).2.1)]).holds _ := hc77
        refine s_move hE rfl rfl ?_; clear hE a; intro a hE
        refine s_move hE rfl rfl ?_; clear hE a; intro a hE
        refine s_indexRd (j := ja) hE rfl (hM.get 7 rfl) rfl slt27 (by first | rfl | omega) (by first | omega | (simp; omega) | (simp [*]; omega)) rfl ?_; clear hE a; intro a p81 hE hc81 hp81
        have hlj81 : ja < acs.length := (by first | omega | (simp; omega))
        have hok81 := ho_acs _ (getD_mem (d := ac0) hlj81)
        rw [flat_elem (d := ac0) (fun x hx => acl_len ((ho_acs x hx)).1) hlj81] at hc81
        refine s_fieldAtN (m := 32) hE rfl hc81 fo39_2 rfl ?_; clear hE a; intro a p82 hE hc82 hp82
        rw [acl_data hok81.1] at hc82
        refine q_nil (q_nx ?_)
        refine o_weak (fun _ => False) (fun _ _ => trivial) ?_
        refine o_fl rfl ?_
        refine s_loadAt1 hE rfl hc77 one3 (by intro X h; cases h; simp) rfl ?_; clear hE a; intro a hE
        refine s_loadAtN hE rfl hc82 (by rw [bv_length, hok81.1]; exact row34) (by intro X h; cases h; simp) rfl ?_; clear hE a; intro a hE
        refine q_nil (q_nx ?_)
        refine o_cut (fun b => b ∈ valBlocks u44) ?_
        refine o_or rfl ?_ ?_
        · replace hM : Mem _ _ w8 [_, _, _, _, _, _, _, _, _] := hM.pick [2, 0, 1, 3, 4, 5, 6, 7, 8] rfl
          refine s_call hE rfl Tryd.call11 (tsetI_c b44 h k ((acs.getD ja ac0).2.2) u44 (playA h (padL (2 ^ h) (ls.take (min ls.length 32))) acs ja) ((acs.getD ja ac0).2.1) _ (hM.get 8 rfl) (hM.get 2 rfl) (hM.get 0 rfl) (fun x hx => ((apart_of_get hM.apart (i := 0) (j := 2) rfl rfl (by decide)).1 x hx).1) (fun x hx => ((apart_of_get hM.apart (i := 0) (j := 8) rfl rfl (by decide)).1 x hx).2) hl_k ((playA_inv (h := h) (OkTs.pad (n := 2 ^ h) hoL) ho_acs (show ja ≤ acs.length by omega)).1) (by first | decide | omega) ((playA_inv (h := h) (OkTs.pad (n := 2 ^ h) hoL) ho_acs (show ja ≤ acs.length by omega)).2.trans (padL_length (by rw [hll]; exact hm))) hok81.1) rfl ?_
          rintro e w9 ⟨q84, rfl, hN⟩
          refine ⟨_, rfl, hN.sta, ?_⟩; clear hE a; intro a hE
          replace hM : Mem _ _ w9 [_, _, _, _, _, _, _, _, _, _] := hM.call1' hN ⟨rfl, rfl, trivial⟩; clear hN
          refine q_nil (q_nx ?_)
          refine o_cut (fun _ => True) ?_
          refine o_re ?_
          refine o_weak (fun _ => False) (fun _ _ => trivial) ?_
          refine o_leaf rfl rfl ?_
          refine s_move hE rfl rfl ?_; clear hE a; intro a hE
          refine s_extract hE rfl rfl rfl ?_; clear hE a; intro a hE
          refine s_extract hE rfl rfl rfl ?_; clear hE a; intro a hE
          refine s_assign hE rfl rfl ?_; clear hE a; intro a hE
          refine s_assign hE rfl rfl ?_; clear hE a; intro a hE
          refine q_nil (q_ph (q_nil ?_))
          replace hE : Env a 166 [(2, _), (3, _), (4, _), (6, _), (7, _), (8, _), (10, _), (11, _), (13, _), (28, _), (48, _), (57, _), (69, _)] := hE.sel [2, 3, 4, 6, 7, 8, 10, 11, 13, 28, 48, 57, 69] rfl
          refine hK17 _ _ ?_
          refine wp_seq_k (fun K18 hK18 => ?_)
          refine wp_seq_k (fun K19 hK19 => ?_)
          refine wp_plain [true, true, true, true, true, true, true, true, true, true, true, true, true, true, true, true, true, true] rfl rfl ?_
          refine s_move hE rfl rfl ?_; clear hE a; intro a hE
          refine s_bin hE rfl rfl bin_eql rfl ?_; clear hE a; intro a hE
          refine s_move hE rfl rfl ?_; clear hE a; intro a hE
          refine s_move hE rfl rfl ?_; clear hE a; intro a hE
          refine s_indexRd (j := ja) hE rfl (hM.get 8 rfl) rfl slt27 (by first | rfl | omega) (by first | omega | (simp; omega) | (simp [*]; omega)) rfl ?_; clear hE a; intro a p91 hE hc91 hp91
          have hlj91 : ja < acs.length := (by first | omega | (simp; omega))
          have hok91 := ho_acs _ (getD_mem (d := ac0) hlj91)
          rw [flat_elem (d := ac0) (fun x hx => acl_len ((ho_acs x hx)).1) hlj91] at hc91
          refine s_fieldAtN (m := 1) hE rfl hc91 fo39_1 rfl ?_; clear hE a; intro a p92 hE hc92 hp92
          replace hc92 : (cellsAt _ [.int .i64 ((acs.getD ja ac0).2.1)]).holds _ := hc92
          refine s_loadAt1 hE rfl hc92 one3 (by intro X h; cases h) rfl ?_; clear hE a; intro a hE
          refine s_bin hE rfl rfl bin_geq rfl ?_; clear hE a; intro a hE
          refine s_move hE rfl rfl ?_; clear hE a; intro a hE
          refine hE.split 95 rfl (fun hb95 hE' => ?_) (fun hb95 hE' => ?_)
          · replace hE := hE'; clear hE'
            replace hb95 := of_decide_eq_true hb95
            refine g_yes hE rfl rfl ?_
            refine s_move hE rfl rfl ?_; clear hE a; intro a hE
            refine g_yes hE rfl rfl ?_
            refine s_move hE rfl rfl ?_; clear hE a; intro a hE
            refine g_yes hE rfl rfl ?_
            refine s_indexRd (j := ja) hE rfl (hM.get 8 rfl) rfl slt27 (by first | rfl | omega) (by first | omega | (simp; omega) | (simp [*]; omega)) rfl ?_; clear hE a; intro a p98 hE hc98 hp98
            have hlj98 : ja < acs.length := (by first | omega | (simp; omega))
            have hok98 := ho_acs _ (getD_mem (d := ac0) hlj98)
            rw [flat_elem (d := ac0) (fun x hx => acl_len ((ho_acs x hx)).1) hlj98] at hc98
            refine g_yes hE rfl rfl ?_
            refine s_fieldAtN (m := 1) hE rfl hc98 fo39_1 rfl ?_; clear hE a; intro a p99 hE hc99 hp99
            replace hc99 : (cellsAt _ [.int .i64 ((acs.getD ja ac0).2.1)]).holds _ := hc99
            refine g_yes hE rfl rfl ?_
            refine s_loadAt1 hE rfl hc99 one3 (by intro X h; cases h) rfl ?_; clear hE a; intro a hE
            refine g_yes hE rfl rfl ?_
            refine s_move hE rfl rfl ?_; clear hE a; intro a hE
            refine g_yes hE rfl rfl ?_
            refine s_bin hE rfl rfl bin_lss rfl ?_; clear hE a; intro a hE
            refine s_pickt hE rfl rfl rfl ?_; clear hE a; intro a hE
            refine s_bin hE rfl rfl (bins_bool Tryd.underlying4).2 rfl ?_; clear hE a; intro a hE
            refine q_nil ?_
            replace hE : Env a 166 [(2, _), (3, _), (4, _), (6, _), (7, _), (8, _), (10, _), (11, _), (13, _), (28, _), (48, _), (57, _), (69, _), (104, _)] := hE.sel [2, 3, 4, 6, 7, 8, 10, 11, 13, 28, 48, 57, 69, 104] rfl
            refine hK19 _ _ ?_
            replace hE := hE.cast 104 rfl (show _ = Value.bool false from (congrArg Value.bool (by have hd : decide (inN 0 (2 ^ h) (acs.getD ja ac0).2.1) = decide ((acs.getD ja ac0).2.1 < ((2 ^ h : Nat) : Int)) := decide_eq_decide.2 ⟨fun e => e.2, fun e => ⟨by omega, e⟩⟩; rw [eZ_dec, hd]; simp)))
            refine wp_cond_false (hE.eval rfl) ?_
            refine wp_skip ?_
            refine hK18 _ _ ?_
            refine wp_seq_k (fun K20 hK20 => ?_)
            refine wp_plain [true, true] rfl rfl ?_
            refine s_move hE rfl rfl ?_; clear hE a; intro a hE
            refine s_bin hE rfl rfl bin_eql rfl ?_; clear hE a; intro a hE
            refine q_nil ?_
            replace hE : Env a 166 [(2, _), (3, _), (4, _), (6, _), (7, _), (8, _), (10, _), (11, _), (13, _), (28, _), (48, _), (57, _), (69, _), (104, _), (106, _)] := hE.sel [2, 3, 4, 6, 7, 8, 10, 11, 13, 28, 48, 57, 69, 104, 106] rfl
            refine hK20 _ _ ?_
            refine hE.split 106 rfl (fun hb106 hE' => ?_) (fun hb106 hE' => ?_)
            · replace hE := hE'; clear hE'
              replace hb106 := of_decide_eq_true hb106
              replace hb106 : (eZ 0 (2 ^ h) ((acs.getD ja ac0).2.1)) = 0 := by omega
              have hz : inN 0 (2 ^ h) (acs.getD ja ac0).2.1 := eZ_iff.1 (by omega)
              have hz1 : (0 : Int) ≤ (acs.getD ja ac0).2.1 := hz.1
              refine wp_cond_true (hE.eval rfl) ?_
              refine wp_treeM hM (by kernel_rfl) (fun _ => True) (fun _ => True) (.re [(0, true), (1, true), (2, true), (3, true), (4, true), (6, true), (7, true), (8, true), (9, true), (5, true), (10, true), (11, true), (12, false)] (.fl 9 (.weak (.fl 3 (.cut (.or 12 (.cut (.re [] (.weak (.leaf 0)))) (.stop))))))) [(0, true), (1, true), (2, true), (3, true), (4, true), (6, true), (7, true), (8, true), (9, true), (5, true), (10, true), (11, true), (12, false)] [(3, [(4, 3), (5, 4), (11, 3), (12, 3)]), (4, [(5, 4), (11, 4), (12, 4)]), (5, [(11, 5), (12, 5)]), (8, [(9, 8), (10, 9), (11, 8), (12, 8)]), (9, [(10, 9), (11, 9), (12, 9)]), (10, [(11, 10), (12, 10)]), (11, [(12, 11)]), (12, [])] (by kernel_rfl) ?_
              intro w10 hM' hww10; clear hM; have hM := hM'; clear hM'
              refine o_re ?_
              refine o_fl rfl ?_
              refine s_move hE rfl rfl ?_; clear hE a; intro a hE
              refine s_move hE rfl rfl ?_; clear hE a; intro a hE
              refine s_move hE rfl rfl ?_; clear hE a; intro a hE
              refine s_indexRd (j := ja) hE rfl (hM.get 8 rfl) rfl slt27 (by first | rfl | omega) (by first | omega | (simp; omega) | (simp [*]; omega)) rfl ?_; clear hE a; intro a p110 hE hc110 hp110
              have hlj110 : ja < acs.length := (by first | omega | (simp; omega))
              have hok110 := ho_acs _ (getD_mem (d := ac0) hlj110)
              rw [flat_elem (d := ac0) (fun x hx => acl_len ((ho_acs x hx)).1) hlj110] at hc110
              refine s_fieldAtN (m := 1) hE rfl hc110 fo39_1 rfl ?_; clear hE a; intro a p111 hE hc111 hp111
              replace hc111 : (cellsAt _ [.int .i64 ((acs.getD ja ac0).2.1)]).holds _ := hc111
              refine s_move hE rfl rfl ?_; clear hE a; intro a hE
              refine s_move hE rfl rfl ?_; clear hE a; intro a hE
              refine s_indexRd (j := ja) hE rfl (hM.get 8 rfl) rfl slt27 (by first | rfl | omega) (by first | omega | (simp; omega) | (simp [*]; omega)) rfl ?_; clear hE a; intro a p115 hE hc115 hp115
              have hlj115 : ja < acs.length := (by first | omega | (simp; omega))
              have hok115 := ho_acs _ (getD_mem (d := ac0) hlj115)
              rw [flat_elem (d := ac0) (fun x hx => acl_len ((ho_acs x hx)).1) hlj115] at hc115
              refine s_fieldAtN (m := 32) hE rfl hc115 fo39_2 rfl ?_; clear hE a; intro a p116 hE hc116 hp116
              rw [acl_data hok115.1] at hc116
              refine q_nil (q_nx ?_)
              refine o_weak (fun _ => False) (fun _ _ => trivial) ?_
              refine o_fl rfl ?_
              refine s_loadAt1 hE rfl hc111 one3 (by intro X h; cases h; simp) rfl ?_; clear hE a; intro a hE
              refine s_loadAtN hE rfl hc116 (by rw [bv_length, hok115.1]; exact row34) (by intro X h; cases h; simp) rfl ?_; clear hE a; intro a hE
              have hlj118 : (acs.getD ja ac0).2.1.toNat < (playA h (padL (2 ^ h) (ls.take (min ls.length 32))) acs ja).length := (by rw [hpn]; omega)
              refine s_indexOwn (j := (acs.getD ja ac0).2.1.toNat) hE rfl (hM.get 2 rfl) rfl slt24 (by first | rfl | omega) hlj118 rfl ?_; clear hE a; intro a hE hc118
              refine q_nil (q_nx ?_)
              refine o_cut (fun b => b ∈ valBlocks vl7) ?_
              refine o_or rfl ?_ ?_
              · replace hM : Mem _ _ w10 [_, _, _, _, _, _, _, _, _, _] := hM.pick [2, 0, 1, 3, 4, 5, 6, 7, 8, 9] rfl
                have hls118 : ((acs.getD ja ac0).2.2).length = 32 := hok115.1
                refine s_storeOwn (vs := bv ((acs.getD ja ac0).2.2)) hE rfl rfl hM rfl sz34 ((bv_length _).trans hls118) (bv_one _) (by rw [bv_length, hls118]; have := hlj118; omega) (by have := hlj118; omega) (by intro X h; cases h; exact fun _ hb => hb) ?_; intro w11 hM'; clear hM; have hM := hM'; clear hM'
                replace hM := Mem.rowPut (ls := playA h (padL (2 ^ h) (ls.take (min ls.length 32))) acs ja) (x := (acs.getD ja ac0).2.2) (j := (acs.getD ja ac0).2.1.toNat) hM rfl ((playA_inv (h := h) (OkTs.pad (n := 2 ^ h) hoL) ho_acs (show ja ≤ acs.length by omega)).1) hls118 hlj118
                refine q_nil (q_nx ?_)
                refine o_cut (fun _ => True) ?_
                refine o_re ?_
                refine o_weak (fun _ => False) (fun _ _ => trivial) ?_
                refine o_leaf rfl rfl ?_
                refine q_nil (q_ph (q_nil ?_))
                replace hE : Env a 166 [(2, _), (3, _), (4, _), (6, _), (7, _), (8, _), (10, _), (11, _), (13, _), (28, _), (48, _), (57, _), (69, _), (104, _), (106, _)] := hE.sel [2, 3, 4, 6, 7, 8, 10, 11, 13, 28, 48, 57, 69, 104, 106] rfl
                refine q_block_n ?_
                refine hK16 _ _ ?_
                refine wp_plain [true, true, true] rfl rfl ?_
                refine s_move hE rfl rfl ?_; clear hE a; intro a hE
                refine s_bin hE rfl rfl (show Bin _ _ _ _ _ (.int .i64 ((ja + 1 : Nat) : Int)) from bin_add (by rw [wrap_i64 (by omega) (by omega)]; omega)) rfl ?_; clear hE a; intro a hE
                refine s_assign hE rfl rfl ?_; clear hE a; intro a hE
                refine q_nil ?_
                replace hE : Env a 166 [(2, _), (3, _), (4, _), (6, _), (7, _), (8, _), (10, _), (11, _), (13, _), (28, _), (48, _), (57, _), (69, _), (104, _), (106, _)] := hE.sel [2, 3, 4, 6, 7, 8, 10, 11, 13, 28, 48, 57, 69, 104, 106] rfl
                replace hE := hE.cast 11 rfl (show _ = Value.int .i64 (((ja + 1) : Nat) : Int) from (congrArg _ (by omega)))
                replace hM : Mem _ _ w11 [_, _, _, _, _, _, _, _, _, _] := hM.pick [2, 0, 1, 3, 4, 5, 6, 7, 8, 9] rfl
                replace hM := Mem.ownRowsEq (f := bv) (ls := allT k (2 ^ h) (lvZ (playA h (padL (2 ^ h) (ls.take (min ls.length 32))) acs ja) h ((acs.getD ja ac0).2.1) ((acs.getD ja ac0).2.2))) (ms := allT k (2 ^ h) (playA h (padL (2 ^ h) (ls.take (min ls.length 32))) acs (ja + 1))) hM (by rw [playA_succ (by assumption)])
                replace hM : Mem _ _ w11 [_, _, _, _, _, _, _, _, _, _] := hM.pick [1, 0, 2, 3, 4, 5, 6, 7, 8, 9] rfl
                replace hM := Mem.ownRowsEq (f := bv) (ls := (playA h (padL (2 ^ h) (ls.take (min ls.length 32))) acs ja).set ((acs.getD ja ac0).2.1.toNat) ((acs.getD ja ac0).2.2)) (ms := playA h (padL (2 ^ h) (ls.take (min ls.length 32))) acs (ja + 1)) hM (by rw [playA_succ (by assumption), lvZ, if_pos hz])
                replace hM : Mem _ _ w11 [_, _, _, _, _, _, _, _, _] := hM.pick [0, 1, 3, 4, 5, 6, 7, 8, 9] rfl
                replace hM : Mem _ _ w11 [_, _, _, _, _, _, _, _, _] := hM.pick [0, 2, 1, 3, 4, 5, 6, 7, 8] rfl
                exact ⟨ja + 1, ⟨by omega, hE.sel [2, 3, 4, 6, 7, 8, 10, 11, 28, 48, 57] rfl, hM⟩, by omega⟩
              trivial
            · replace hE := hE'; clear hE'
              replace hb106 := of_decide_eq_false hb106
              replace hb106 : ¬ ((eZ 0 (2 ^ h) ((acs.getD ja ac0).2.1)) = 0) := by omega
              have hz : ¬ inN 0 (2 ^ h) (acs.getD ja ac0).2.1 := fun e => hb106 (eZ_in e)
              refine wp_cond_false (hE.eval rfl) ?_
              refine wp_skip ?_
              refine q_block_n ?_
              refine hK16 _ _ ?_
              refine wp_plain [true, true, true] rfl rfl ?_
              refine s_move hE rfl rfl ?_; clear hE a; intro a hE
              refine s_bin hE rfl rfl (show Bin _ _ _ _ _ (.int .i64 ((ja + 1 : Nat) : Int)) from bin_add (by rw [wrap_i64 (by omega) (by omega)]; omega)) rfl ?_; clear hE a; intro a hE
              refine s_assign hE rfl rfl ?_; clear hE a; intro a hE
              refine q_nil ?_
              replace hE : Env a 166 [(2, _), (3, _), (4, _), (6, _), (7, _), (8, _), (10, _), (11, _), (13, _), (28, _), (48, _), (57, _), (69, _), (104, _), (106, _)] := hE.sel [2, 3, 4, 6, 7, 8, 10, 11, 13, 28, 48, 57, 69, 104, 106] rfl
              replace hE := hE.cast 11 rfl (show _ = Value.int .i64 (((ja + 1) : Nat) : Int) from (congrArg _ (by omega)))
              replace hM : Mem _ _ w9 [_, _, _, _, _, _, _, _, _, _] := hM.pick [1, 0, 2, 3, 4, 5, 6, 7, 8, 9] rfl
              replace hM := Mem.ownRowsEq (f := bv) (ls := allT k (2 ^ h) (lvZ (playA h (padL (2 ^ h) (ls.take (min ls.length 32))) acs ja) h ((acs.getD ja ac0).2.1) ((acs.getD ja ac0).2.2))) (ms := allT k (2 ^ h) (playA h (padL (2 ^ h) (ls.take (min ls.length 32))) acs (ja + 1))) hM (by rw [playA_succ (by assumption)])
              replace hM : Mem _ _ w9 [_, _, _, _, _, _, _, _, _, _] := hM.pick [2, 0, 1, 3, 4, 5, 6, 7, 8, 9] rfl
              replace hM := Mem.ownRowsEq (f := bv) (ls := playA h (padL (2 ^ h) (ls.take (min ls.length 32))) acs ja) (ms := playA h (padL (2 ^ h) (ls.take (min ls.length 32))) acs (ja + 1)) hM (by rw [playA_succ (by assumption), lvZ, if_neg hz])
              replace hM : Mem _ _ w9 [_, _, _, _, _, _, _, _, _] := hM.pick [0, 1, 3, 4, 5, 6, 7, 8, 9] rfl
              replace hM : Mem _ _ w9 [_, _, _, _, _, _, _, _, _] := hM.pick [0, 2, 1, 3, 4, 5, 6, 7, 8] rfl
              exact ⟨ja + 1, ⟨by omega, hE.sel [2, 3, 4, 6, 7, 8, 10, 11, 28, 48, 57] rfl, hM⟩, by omega⟩
          · replace hE := hE'; clear hE'
            replace hb95 := of_decide_eq_false hb95
            refine g_no (b := false) hE rfl rfl rfl ?_; clear hE a; intro a hE
            refine g_no (b := false) hE rfl rfl rfl ?_; clear hE a; intro a hE
            refine g_no (b := false) hE rfl rfl rfl ?_; clear hE a; intro a hE
            refine g_no (b := false) hE rfl rfl rfl ?_; clear hE a; intro a hE
            refine g_no (b := false) hE rfl rfl rfl ?_; clear hE a; intro a hE
            refine g_no (b := false) hE rfl rfl rfl ?_; clear hE a; intro a hE
            refine g_no (b := false) hE rfl rfl rfl ?_; clear hE a; intro a hE
            refine s_pickf hE rfl rfl rfl ?_; clear hE a; intro a hE
            refine s_bin hE rfl rfl (bins_bool Tryd.underlying4).2 rfl ?_; clear hE a; intro a hE
            refine q_nil ?_
            replace hE : Env a 166 [(2, _), (3, _), (4, _), (6, _), (7, _), (8, _), (10, _), (11, _), (13, _), (28, _), (48, _), (57, _), (69, _), (104, _)] := hE.sel [2, 3, 4, 6, 7, 8, 10, 11, 13, 28, 48, 57, 69, 104] rfl
            refine hK19 _ _ ?_
            replace hE := hE.cast 104 rfl (show _ = Value.bool false from (congrArg Value.bool (by rw [eZ_dec, decide_eq_false (show ¬ inN 0 (2 ^ h) (acs.getD ja ac0).2.1 from fun e => by omega)]; rfl)))
            refine wp_cond_false (hE.eval rfl) ?_
            refine wp_skip ?_
            refine hK18 _ _ ?_
            refine wp_seq_k (fun K20 hK20 => ?_)
            refine wp_plain [true, true] rfl rfl ?_
            refine s_move hE rfl rfl ?_; clear hE a; intro a hE
            refine s_bin hE rfl rfl bin_eql rfl ?_; clear hE a; intro a hE
            refine q_nil ?_
            replace hE : Env a 166 [(2, _), (3, _), (4, _), (6, _), (7, _), (8, _), (10, _), (11, _), (13, _), (28, _), (48, _), (57, _), (69, _), (104, _), (106, _)] := hE.sel [2, 3, 4, 6, 7, 8, 10, 11, 13, 28, 48, 57, 69, 104, 106] rfl
            refine hK20 _ _ ?_
            refine hE.split 106 rfl (fun hb106 hE' => ?_) (fun hb106 hE' => ?_)
            · replace hE := hE'; clear hE'
              replace hb106 := of_decide_eq_true hb106
              replace hb106 : (eZ 0 (2 ^ h) ((acs.getD ja ac0).2.1)) = 0 := by omega
              have hz : inN 0 (2 ^ h) (acs.getD ja ac0).2.1 := eZ_iff.1 (by omega)
              exfalso; omega
            · replace hE := hE'; clear hE'
              replace hb106 := of_decide_eq_false hb106
              replace hb106 : ¬ ((eZ 0 (2 ^ h) ((acs.getD ja ac0).2.1)) = 0) := by omega
              have hz : ¬ inN 0 (2 ^ h) (acs.getD ja ac0).2.1 := fun e => hb106 (eZ_in e)
              refine wp_cond_false (hE.eval rfl) ?_
              refine wp_skip ?_
              refine q_block_n ?_
              refine hK16 _ _ ?_
              refine wp_plain [true, true, true] rfl rfl ?_
              refine s_move hE rfl rfl ?_; clear hE a; intro a hE
              refine s_bin hE rfl rfl (show Bin _ _ _ _ _ (.int .i64 ((ja + 1 : Nat) : Int)) from bin_add (by rw [wrap_i64 (by omega) (by omega)]; omega)) rfl ?_; clear hE a; intro a hE
              refine s_assign hE rfl rfl ?_; clear hE a; intro a hE
              refine q_nil ?_
              replace hE : Env a 166 [(2, _), (3, _), (4, _), (6, _), (7, _), (8, _), (10, _), (11, _), (13, _), (28, _), (48, _), (57, _), (69, _), (104, _), (106, _)] := hE.sel [2, 3, 4, 6, 7, 8, 10, 11, 13, 28, 48, 57, 69, 104, 106] rfl
              replace hE := hE.cast 11 rfl (show _ = Value.int .i64 (((ja + 1) : Nat) : Int) from (congrArg _ (by omega)))
              replace hM : Mem _ _ w9 [_, _, _, _, _, _, _, _, _, _] := hM.pick [1, 0, 2, 3, 4, 5, 6, 7, 8, 9] rfl
              replace hM := Mem.ownRowsEq (f := bv) (ls := allT k (2 ^ h) (lvZ (playA h (padL (2 ^ h) (ls.take (min ls.length 32))) acs ja) h ((acs.getD ja ac0).2.1) ((acs.getD ja ac0).2.2))) (ms := allT k (2 ^ h) (playA h (padL (2 ^ h) (ls.take (min ls.length 32))) acs (ja + 1))) hM (by rw [playA_succ (by assumption)])
              replace hM : Mem _ _ w9 [_, _, _, _, _, _, _, _, _, _] := hM.pick [2, 0, 1, 3, 4, 5, 6, 7, 8, 9] rfl
              replace hM := Mem.ownRowsEq (f := bv) (ls := playA h (padL (2 ^ h) (ls.take (min ls.length 32))) acs ja) (ms := playA h (padL (2 ^ h) (ls.take (min ls.length 32))) acs (ja + 1)) hM (by rw [playA_succ (by assumption), lvZ, if_neg hz])
              replace hM : Mem _ _ w9 [_, _, _, _, _, _, _, _, _] := hM.pick [0, 1, 3, 4, 5, 6, 7, 8, 9] rfl
              replace hM : Mem _ _ w9 [_, _, _, _, _, _, _, _, _] := hM.pick [0, 2, 1, 3, 4, 5, 6, 7, 8] rfl
              exact ⟨ja + 1, ⟨by omega, hE.sel [2, 3, 4, 6, 7, 8, 10, 11, 28, 48, 57] rfl, hM⟩, by omega⟩
        trivial
      · replace hE := hE'; clear hE'
        replace hb69 := of_decide_eq_false hb69
        replace hb69 : ¬ (ja < 20) := by omega
        refine wp_cond_false (hE.eval rfl) ?_
        refine wp_exit ?_
        refine q_then_e ?_
        refine q_then_e ?_
        refine q_block_x ?_
        refine hK12 _ _ ?_
        refine wp_seq_k (fun K16 hK16 => ?_)
        refine wp_plain [true, true, true, true, false, true, true, true, true, true] rfl rfl ?_
        refine s_loadN hE rfl (hM.get 5 rfl) row23 rfl (by intro X h; cases h) rfl ?_; clear hE a; intro a hE
        refine s_fieldAddr hE rfl fo26_0 rfl ?_; clear hE a; intro a hE
        refine s_load1 hE rfl (hM.get 4 rfl) rfl one3 (by intro X h; cases h) rfl ?_; clear hE a; intro a hE
        refine s_move hE rfl rfl ?_; clear hE a; intro a hE
        obtain ⟨cq3, hq3⟩ := own_rd (hM.get 0 rfl)
        refine s_call hE rfl Tryd.call10 (tnew_c k h _ (playA h (padL (2 ^ h) (ls.take (min ls.length 32))) acs ja) _ _ (hM.get 8 rfl) hq3 hl_k ((playA_inv (h := h) (OkTs.pad (n := 2 ^ h) hoL) ho_acs (show ja ≤ acs.length by omega)).1) (by first | decide | omega) (Nat.le_of_eq hpn)) rfl ?_
        rintro e w8 ⟨b124, u124, rfl, hN⟩
        refine ⟨_, rfl, trivial, ?_⟩; clear hE a; intro a hE
        replace hM : Mem _ _ w8 [_, _, _, _, _, _, _, _, _, _, _] := hM.call0 hN ⟨rfl, rfl, trivial⟩; clear hN
        replace hM : Mem _ _ w8 [_, _, _, _, _, _, _, _, _, _, _] := hM.pick [1, 0, 2, 3, 4, 5, 6, 7, 8, 9, 10] rfl
        replace hM := Mem.ownRowsEq (f := bv) (ls := allT k (2 ^ h) (padL (2 ^ h) (playA h (padL (2 ^ h) (ls.take (min ls.length 32))) acs ja))) (ms := allT k (2 ^ h) (playA h (padL (2 ^ h) (ls.take (min ls.length 32))) acs ja)) hM (by rw [padL_full hpn])
        refine s_move hE rfl rfl ?_; clear hE a; intro a hE
        refine s_extract hE rfl rfl rfl ?_; clear hE a; intro a hE
        refine s_extract hE rfl rfl rfl ?_; clear hE a; intro a hE
        refine s_assign hE rfl rfl ?_; clear hE a; intro a hE
        refine s_assign hE rfl rfl ?_; clear hE a; intro a hE
        refine q_nil ?_
        replace hE : Env a 166 [(2, _), (3, _), (4, _), (6, _), (7, _), (8, _), (10, _), (11, _), (14, _), (15, _), (28, _), (48, _), (57, _), (69, _)] := hE.sel [2, 3, 4, 6, 7, 8, 10, 11, 14, 15, 28, 48, 57, 69] rfl
        refine hK16 _ _ ?_
        refine wp_seq_k (fun K17 hK17 => ?_)
        refine wp_seq_k (fun K18 hK18 => ?_)
        refine wp_plain [true, true, true, true, false, true, false, true, true] rfl rfl ?_
        refine s_move hE rfl rfl ?_; clear hE a; intro a hE
        refine s_bin hE rfl rfl bin_neq rfl ?_; clear hE a; intro a hE
        replace hE := hE.cast 128 rfl (show _ = Value.bool false from (congrArg Value.bool (by decide)))
        refine s_move hE rfl rfl ?_; clear hE a; intro a hE
        refine g_yes hE rfl rfl ?_
        refine s_move hE rfl rfl ?_; clear hE a; intro a hE
        refine g_yes hE rfl rfl ?_
        obtain ⟨cs4, hs4⟩ := own_rd (hM.get 4 rfl)
        refine s_call hE rfl Tryd.call12 (ttop_c b44 h k u44 (allT k (2 ^ h) (playA h (padL (2 ^ h) (ls.take (min ls.length 32))) acs ja)) cs4 _ (hM.get 3 rfl) hs4 hl_k (OkTs.all ((playA_inv (h := h) (OkTs.pad (n := 2 ^ h) hoL) ho_acs (show ja ≤ acs.length by omega)).1)) (by first | decide | omega) (allT_len (Nat.le_of_eq ((playA_inv (h := h) (OkTs.pad (n := 2 ^ h) hoL) ho_acs (show ja ≤ acs.length by omega)).2.trans (padL_length (by rw [hll]; exact hm)))))) rfl ?_
        rintro e w9 ⟨rfl, hN⟩
        refine ⟨_, rfl, trivial, ?_⟩; clear hE a; intro a hE
        replace hM : Mem _ _ w9 [_, _, _, _, _, _, _, _, _, _, _] := hM.call0 hN trivial; clear hN
        refine g_yes hE rfl rfl ?_
        refine s_move hE rfl rfl ?_; clear hE a; intro a hE
        refine g_yes hE rfl rfl ?_
        obtain ⟨cs5, hs5⟩ := own_rd (hM.get 0 rfl)
        refine s_call hE rfl Tryd.call12 (ttop_c b124 h k u124 (allT k (2 ^ h) (playA h (padL (2 ^ h) (ls.take (min ls.length 32))) acs ja)) cs5 _ (hM.get 1 rfl) hs5 hl_k (OkTs.all ((playA_inv (h := h) (OkTs.pad (n := 2 ^ h) hoL) ho_acs (show ja ≤ acs.length by omega)).1)) (by first | decide | omega) (allT_len (Nat.le_of_eq hpn))) rfl ?_
        rintro e w10 ⟨rfl, hN⟩
        refine ⟨_, rfl, trivial, ?_⟩; clear hE a; intro a hE
        replace hM : Mem _ _ w10 [_, _, _, _, _, _, _, _, _, _, _] := hM.call0 hN trivial; clear hN
        refine g_yes hE rfl rfl ?_
        refine s_bin hE rfl rfl (eqa34 (OkTs.get (OkTs.all ((playA_inv (h := h) (OkTs.pad (n := 2 ^ h) hoL) ho_acs (show ja ≤ acs.length by omega)).1)) 1) (OkTs.get (OkTs.all ((playA_inv (h := h) (OkTs.pad (n := 2 ^ h) hoL) ho_acs (show ja ≤ acs.length by omega)).1)) 1)).2 rfl ?_; clear hE a; intro a hE
        refine s_pickf hE rfl rfl rfl ?_; clear hE a; intro a hE
        refine q_nil ?_
        replace hE : Env a 166 [(2, _), (3, _), (4, _), (6, _), (7, _), (8, _), (10, _), (11, _), (14, _), (28, _), (48, _), (57, _), (69, _), (135, _)] := hE.sel [2, 3, 4, 6, 7, 8, 10, 11, 14, 28, 48, 57, 69, 135] rfl
        refine hK18 _ _ ?_
        replace hE := hE.cast 135 rfl (show _ = Value.bool false from (congrArg Value.bool (by simp)))
        refine wp_cond_false (hE.eval rfl) ?_
        refine wp_skip ?_
        refine hK17 _ _ ?_
        refine wp_seq_k (fun K19 hK19 => ?_)
        refine wp_seq_k (fun K20 hK20 => ?_)
        refine wp_plain [true] rfl rfl ?_
        refine s_assign hE rfl rfl ?_; clear hE a; intro a hE
        refine q_nil ?_
        refine hK20 _ _ ?_
        refine wp_block ?_
        replace hE := hE.cast 16 rfl (show _ = Value.int .i64 ((0 + 1 : Nat) : Int) from rfl)
        refine c_loop (fun (i : Nat) a w' => i ≤ 2 * 2 ^ h - 1 ∧ Env a 166 [(2, va), (3, .pointer (some ⟨b3, 0, none⟩)), (4, .pointer (some ⟨b4, 0, none⟩)), (6, .bool false), (7, vl7), (8, .pointer (some ⟨b44, 0, none⟩)), (10, .int .i64 ((2 ^ h : Nat) : Int)), (11, .int .i64 ((ja : Nat) : Int)), (14, .pointer (some ⟨b124, 0, none⟩)), (16, .int .i64 ((i + 1 : Nat) : Int)), (28, .bool false), (48, .bool false), (57, .bool false), (69, .bool false), (135, .bool false)] ∧ Mem w [] w' [own u124 32 ((allT k (2 ^ h) (playA h (padL (2 ^ h) (ls.take (min ls.length 32))) acs ja)).length) ((allT k (2 ^ h) (playA h (padL (2 ^ h) (ls.take (min ls.length 32))) acs ja)).flatMap bv), blk b124 [bv k, [.int .i64 ((h : Nat) : Int)], [u124]] [32, 1, 1] 73, own vl7 32 ((playA h (padL (2 ^ h) (ls.take (min ls.length 32))) acs ja).length) ((playA h (padL (2 ^ h) (ls.take (min ls.length 32))) acs ja).flatMap bv), blk b44 [bv k, [.int .i64 ((h : Nat) : Int)], [u44]] [32, 1, 1] 73, own u44 32 ((allT k (2 ^ h) (playA h (padL (2 ^ h) (ls.take (min ls.length 32))) acs ja)).length) ((allT k (2 ^ h) (playA h (padL (2 ^ h) (ls.take (min ls.length 32))) acs ja)).flatMap bv), rd v37 32 ((ls.take (min ls.length 32)).length) (c - 0) ((ls.take (min ls.length 32)).flatMap bv), blk b4 [[.int .i64 ((h : Nat) : Int)], [v]] [1, 1] 26, blk b3 [bv k] [32] 23, rd v 32 ls.length c (ls.flatMap bv), rd va 34 acs.length ca (acs.flatMap wcl), glb 0]) (fun i => 2 * 2 ^ h - 1 - i) 0 ⟨Nat.zero_le _, hE.sel [2, 3, 4, 6, 7, 8, 10, 11, 14, 16, 28, 48, 57, 69, 135] rfl, hM⟩ ?_
        clear hE hM a; rintro i a w11 ⟨hi, hE, hM⟩
        refine wp_seq_k (fun K21 hK21 => ?_)
        refine wp_seq_k (fun K22 hK22 => ?_)
        refine wp_plain [true, true, true, true] rfl rfl ?_
        refine s_move hE rfl rfl ?_; clear hE a; intro a hE
        refine s_move hE rfl rfl ?_; clear hE a; intro a hE
        refine s_bin hE rfl rfl (show Bin _ _ _ _ _ (.int .i64 ((2 * (2 ^ h) : Nat) : Int)) from bin_mul (by rw [wrap_i64 (by omega) (by omega)]; omega)) rfl ?_; clear hE a; intro a hE
        refine s_bin hE rfl rfl bin_lss rfl ?_; clear hE a; intro a hE
        refine q_nil ?_
        replace hE : Env a 166 [(2, _), (3, _), (4, _), (6, _), (7, _), (8, _), (10, _), (11, _), (14, _), (16, _), (28, _), (48, _), (57, _), (69, _), (135, _), (139, _)] := hE.sel [2, 3, 4, 6, 7, 8, 10, 11, 14, 16, 28, 48, 57, 69, 135, 139] rfl
        refine hK22 _ _ ?_
        refine hE.split 139 rfl (fun hb139 hE' => ?_) (fun hb139 hE' => ?_)
        · replace hE := hE'; clear hE'
          replace hb139 := of_decide_eq_true hb139
          replace hb139 : (i + 1) < (2 * (2 ^ h)) := by omega
          replace hb139 : i < 2 * 2 ^ h - 1 := by omega
          refine wp_cond_true (hE.eval rfl) ?_
          refine wp_skip ?_
          refine hK21 _ _ ?_
          refine wp_seq_k (fun K23 hK23 => ?_)
          refine wp_block ?_
          refine wp_seq_k (fun K24 hK24 => ?_)
          refine wp_plain [true, true, false, true, true, true, false, false, true] rfl rfl ?_
          refine s_move hE rfl rfl ?_; clear hE a; intro a hE
          refine s_move hE rfl rfl ?_; clear hE a; intro a hE
          obtain ⟨cs6, hs6⟩ := own_rd (hM.get 4 rfl)
          refine s_call hE rfl Tryd.call13 (ttagI_c b44 h k u44 (allT k (2 ^ h) (playA h (padL (2 ^ h) (ls.take (min ls.length 32))) acs ja)) cs6 ((i + 1 : Nat) : Int) _ (hM.get 3 rfl) hs6 hl_k (OkTs.all ((playA_inv (h := h) (OkTs.pad (n := 2 ^ h) hoL) ho_acs (show ja ≤ acs.length by omega)).1)) (by first | decide | omega) (allT_len (Nat.le_of_eq ((playA_inv (h := h) (OkTs.pad (n := 2 ^ h) hoL) ho_acs (show ja ≤ acs.length by omega)).2.trans (padL_length (by rw [hll]; exact hm)))))) rfl ?_
          rintro e w12 ⟨rfl, hN⟩
          refine ⟨_, rfl, trivial, ?_⟩; clear hE a; intro a hE
          replace hM : Mem _ _ w12 [_, _, _, _, _, _, _, _, _, _, _] := hM.call0 hN trivial; clear hN
          refine s_move hE rfl rfl ?_; clear hE a; intro a hE
          refine s_extract hE rfl rfl rfl ?_; clear hE a; intro a hE
          refine s_extract hE rfl rfl rfl ?_; clear hE a; intro a hE
          refine s_alloc [32] hE hM zero34 rfl rfl ?_; clear hE a; intro a b17 w13 hE hM'
          clear hM; have hM := hM'; clear hM'
          refine s_storeSeg 0 hE rfl rfl hM rfl sz34 ((bv_length _).trans (tagZ_len (OkTs.all ((playA_inv (h := h) (OkTs.pad (n := 2 ^ h) hoL) ho_acs (show ja ≤ acs.length by omega)).1)))) (bv_one _) rfl ((bv_length _).trans (by first | (simp; done) | (simp [*]; done) | (simp; omega))) rfl (by intro X h; cases h) ?_; intro w14 hM'; clear hM; have hM := hM'; clear hM'
          simp only [List.set_cons_zero, List.set_cons_succ] at hM
          refine s_assign hE rfl rfl ?_; clear hE a; intro a hE
          refine q_nil ?_
          replace hE : Env a 166 [(2, _), (3, _), (4, _), (6, _), (7, _), (8, _), (10, _), (11, _), (14, _), (16, _), (17, _), (18, _), (28, _), (48, _), (57, _), (69, _), (135, _), (139, _)] := hE.sel [2, 3, 4, 6, 7, 8, 10, 11, 14, 16, 17, 18, 28, 48, 57, 69, 135, 139] rfl
          refine hK24 _ _ ?_
          refine wp_seq_k (fun K25 hK25 => ?_)
          refine wp_plain [true, true, false, true, true, true, false, false, true] rfl rfl ?_
          refine s_move hE rfl rfl ?_; clear hE a; intro a hE
          refine s_move hE rfl rfl ?_; clear hE a; intro a hE
          obtain ⟨cs7, hs7⟩ := own_rd (hM.get 1 rfl)
          refine s_call hE rfl Tryd.call13 (ttagI_c b124 h k u124 (allT k (2 ^ h) (playA h (padL (2 ^ h) (ls.take (min ls.length 32))) acs ja)) cs7 ((i + 1 : Nat) : Int) _ (hM.get 2 rfl) hs7 hl_k (OkTs.all ((playA_inv (h := h) (OkTs.pad (n := 2 ^ h) hoL) ho_acs (show ja ≤ acs.length by omega)).1)) (by first | decide | omega) (allT_len (Nat.le_of_eq hpn))) rfl ?_
          rintro e w15 ⟨rfl, hN⟩
          refine ⟨_, rfl, trivial, ?_⟩; clear hE a; intro a hE
          replace hM : Mem _ _ w15 [_, _, _, _, _, _, _, _, _, _, _, _] := hM.call0 hN trivial; clear hN
          refine s_move hE rfl rfl ?_; clear hE a; intro a hE
          refine s_extract hE rfl rfl rfl ?_; clear hE a; intro a hE
          refine s_extract hE rfl rfl rfl ?_; clear hE a; intro a hE
          refine s_alloc [32] hE hM zero34 rfl rfl ?_; clear hE a; intro a b19 w16 hE hM'
          clear hM; have hM := hM'; clear hM'
          refine s_storeSeg 0 hE rfl rfl hM rfl sz34 ((bv_length _).trans (tagZ_len (OkTs.all ((playA_inv (h := h) (OkTs.pad (n := 2 ^ h) hoL) ho_acs (show ja ≤ acs.length by omega)).1)))) (bv_one _) rfl ((bv_length _).trans (by first | (simp; done) | (simp [*]; done) | (simp; omega))) rfl (by intro X h; cases h) ?_; intro w17 hM'; clear hM; have hM := hM'; clear hM'
          simp only [List.set_cons_zero, List.set_cons_succ] at hM
          refine s_assign hE rfl rfl ?_; clear hE a; intro a hE
          refine q_nil ?_
          replace hE : Env a 166 [(2, _), (3, _), (4, _), (6, _), (7, _), (8, _), (10, _), (11, _), (14, _), (16, _), (17, _), (18, _), (19, _), (20, _), (28, _), (48, _), (57, _), (69, _), (135, _), (139, _)] := hE.sel [2, 3, 4, 6, 7, 8, 10, 11, 14, 16, 17, 18, 19, 20, 28, 48, 57, 69, 135, 139] rfl
          refine hK25 _ _ ?_
          refine wp_seq_k (fun K26 hK26 => ?_)
          refine wp_plain [true, true, true, true, true, true, true, true, true, true, true] rfl rfl ?_
          refine s_move hE rfl rfl ?_; clear hE a; intro a hE
          refine s_bin hE rfl rfl bin_neq rfl ?_; clear hE a; intro a hE
          refine s_move hE rfl rfl ?_; clear hE a; intro a hE
          replace hE := hE.cast 156 rfl (show _ = Value.bool false from (congrArg Value.bool (by rw [eZ_in (by omega)]; rfl)))
          refine g_yes hE rfl rfl ?_
          refine s_move hE rfl rfl ?_; clear hE a; intro a hE
          refine g_yes hE rfl rfl ?_
          refine s_bin hE rfl rfl bin_neq rfl ?_; clear hE a; intro a hE
          refine s_pickf hE rfl rfl rfl ?_; clear hE a; intro a hE
          refine s_move hE rfl rfl ?_; clear hE a; intro a hE
          replace hE := hE.cast 160 rfl (show _ = Value.bool false from (congrArg Value.bool (by rw [eZ_in (by omega)]; rfl)))
          refine g_yes hE rfl rfl ?_
          refine s_loadN hE rfl (hM.get 1 rfl) row34 rfl (by intro X h; cases h) rfl ?_; clear hE a; intro a hE
          refine g_yes hE rfl rfl ?_
          refine s_loadN hE rfl (hM.get 0 rfl) row34 rfl (by intro X h; cases h) rfl ?_; clear hE a; intro a hE
          refine g_yes hE rfl rfl ?_
          refine s_bin hE rfl rfl (eqa34 (tagZ_len (OkTs.all ((playA_inv (h := h) (OkTs.pad (n := 2 ^ h) hoL) ho_acs (show ja ≤ acs.length by omega)).1))) (tagZ_len (OkTs.all ((playA_inv (h := h) (OkTs.pad (n := 2 ^ h) hoL) ho_acs (show ja ≤ acs.length by omega)).1)))).2 rfl ?_; clear hE a; intro a hE
          refine s_pickf hE rfl rfl rfl ?_; clear hE a; intro a hE
          refine q_nil ?_
          replace hE : Env a 166 [(2, _), (3, _), (4, _), (6, _), (7, _), (8, _), (10, _), (11, _), (14, _), (16, _), (17, _), (18, _), (19, _), (20, _), (28, _), (48, _), (57, _), (69, _), (135, _), (139, _), (164, _)] := hE.sel [2, 3, 4, 6, 7, 8, 10, 11, 14, 16, 17, 18, 19, 20, 28, 48, 57, 69, 135, 139, 164] rfl
          refine hK26 _ _ ?_
          replace hE := hE.cast 164 rfl (show _ = Value.bool false from (congrArg Value.bool (by simp)))
          refine wp_cond_false (hE.eval rfl) ?_
          refine wp_skip ?_
          refine q_block_n ?_
          refine hK23 _ _ ?_
          refine wp_plain [true, true, true] rfl rfl ?_
          refine s_move hE rfl rfl ?_; clear hE a; intro a hE
          refine s_bin hE rfl rfl (show Bin _ _ _ _ _ (.int .i64 (((i + 1) + 1 : Nat) : Int)) from bin_add (by rw [wrap_i64 (by omega) (by omega)]; omega)) rfl ?_; clear hE a; intro a hE
          refine s_assign hE rfl rfl ?_; clear hE a; intro a hE
          refine q_nil ?_
          replace hE : Env a 166 [(2, _), (3, _), (4, _), (6, _), (7, _), (8, _), (10, _), (11, _), (14, _), (16, _), (17, _), (18, _), (19, _), (20, _), (28, _), (48, _), (57, _), (69, _), (135, _), (139, _), (164, _)] := hE.sel [2, 3, 4, 6, 7, 8, 10, 11, 14, 16, 17, 18, 19, 20, 28, 48, 57, 69, 135, 139, 164] rfl
          replace hE := hE.cast 16 rfl (show _ = Value.int .i64 (((i + 1) + 1 : Nat) : Int) from (congrArg _ (by omega)))
          replace hM : Mem _ _ w17 [_, _, _, _, _, _, _, _, _, _, _] := hM.pick [2, 3, 4, 5, 6, 7, 8, 9, 10, 11, 12] rfl
          exact ⟨i + 1, ⟨by omega, hE.sel [2, 3, 4, 6, 7, 8, 10, 11, 14, 16, 28, 48, 57, 69, 135] rfl, hM⟩, by omega⟩
        · replace hE := hE'; clear hE'
          replace hb139 := of_decide_eq_false hb139
          replace hb139 : ¬ ((i + 1) < (2 * (2 ^ h))) := by omega
          refine wp_cond_false (hE.eval rfl) ?_
          refine wp_exit ?_
          refine q_then_e ?_
          refine q_then_e ?_
          refine q_block_x ?_
          refine hK19 _ _ ?_
          refine wp_seq_k (fun K23 hK23 => ?_)
          refine wp_plain [false, true] rfl rfl ?_
          refine s_call hE rfl Tryd.call9 (works_c  _ (hM.get 10 rfl)) rfl ?_
          rintro e w12 ⟨rfl, hN⟩
          refine ⟨_, rfl, trivial, ?_⟩; clear hE a; intro a hE
          replace hM : Mem _ _ w12 [_, _, _, _, _, _, _, _, _, _, _] := hM.call0 hN trivial; clear hN
          refine s_assign hE rfl rfl ?_; clear hE a; intro a hE
          refine q_nil ?_
          replace hE : Env a 166 [(2, _), (3, _), (4, _), (6, _), (7, _), (8, _), (10, _), (11, _), (14, _), (16, _), (28, _), (48, _), (57, _), (69, _), (135, _), (139, _)] := hE.sel [2, 3, 4, 6, 7, 8, 10, 11, 14, 16, 28, 48, 57, 69, 135, 139] rfl
          refine hK23 _ _ ?_
          refine wp_ret ?_
          refine f_ret1 hE rfl rfl ?_
          exact ⟨(by first | rfl | (simp; done)), hM.pick [] rfl⟩
    · replace hE := hE'; clear hE'
      replace hb66 := of_decide_eq_false hb66
      replace hb66 : ¬ (ja < acs.length) := by omega
      refine g_no (b := false) hE rfl rfl rfl ?_; clear hE a; intro a hE
      refine g_no (b := false) hE rfl rfl rfl ?_; clear hE a; intro a hE
      refine s_pickf hE rfl rfl rfl ?_; clear hE a; intro a hE
      refine q_nil ?_
      replace hE : Env a 166 [(2, _), (3, _), (4, _), (6, _), (7, _), (8, _), (10, _), (11, _), (28, _), (48, _), (57, _), (69, _)] := hE.sel [2, 3, 4, 6, 7, 8, 10, 11, 28, 48, 57, 69] rfl
      refine hK15 _ _ ?_
      refine wp_cond_false (hE.eval rfl) ?_
      refine wp_exit ?_
      refine q_then_e ?_
      refine q_then_e ?_
      refine q_block_x ?_
      refine hK12 _ _ ?_
      refine wp_seq_k (fun K16 hK16 => ?_)
      refine wp_plain [true, true, true, true, false, true, true, true, true, true] rfl rfl ?_
      refine s_loadN hE rfl (hM.get 5 rfl) row23 rfl (by intro X h; cases h) rfl ?_; clear hE a; intro a hE
      refine s_fieldAddr hE rfl fo26_0 rfl ?_; clear hE a; intro a hE
      refine s_load1 hE rfl (hM.get 4 rfl) rfl one3 (by intro X h; cases h) rfl ?_; clear hE a; intro a hE
      refine s_move hE rfl rfl ?_; clear hE a; intro a hE
      obtain ⟨cq8, hq8⟩ := own_rd (hM.get 0 rfl)
      refine s_call hE rfl Tryd.call10 (tnew_c k h _ (playA h (padL (2 ^ h) (ls.take (min ls.length 32))) acs ja) _ _ (hM.get 8 rfl) hq8 hl_k ((playA_inv (h := h) (OkTs.pad (n := 2 ^ h) hoL) ho_acs (show ja ≤ acs.length by omega)).1) (by first | decide | omega) (Nat.le_of_eq hpn)) rfl ?_
      rintro e w8 ⟨b124, u124, rfl, hN⟩
      refine ⟨_, rfl, trivial, ?_⟩; clear hE a; intro a hE
      replace hM : Mem _ _ w8 [_, _, _, _, _, _, _, _, _, _, _] := hM.call0 hN ⟨rfl, rfl, trivial⟩; clear hN
      replace hM : Mem _ _ w8 [_, _, _, _, _, _, _, _, _, _, _] := hM.pick [1, 0, 2, 3, 4, 5, 6, 7, 8, 9, 10] rfl
      replace hM := Mem.ownRowsEq (f := bv) (ls := allT k (2 ^ h) (padL (2 ^ h) (playA h (padL (2 ^ h) (ls.take (min ls.length 32))) acs ja))) (ms := allT k (2 ^ h) (playA h (padL (2 ^ h) (ls.take (min ls.length 32))) acs ja)) hM (by rw [padL_full hpn])
      refine s_move hE rfl rfl ?_; clear hE a; intro a hE
      refine s_extract hE rfl rfl rfl ?_; clear hE a; intro a hE
      refine s_extract hE rfl rfl rfl ?_; clear hE a; intro a hE
      refine s_assign hE rfl rfl ?_; clear hE a; intro a hE
      refine s_assign hE rfl rfl ?_; clear hE a; intro a hE
      refine q_nil ?_
      replace hE : Env a 166 [(2, _), (3, _), (4, _), (6, _), (7, _), (8, _), (10, _), (11, _), (14, _), (15, _), (28, _), (48, _), (57, _), (69, _)] := hE.sel [2, 3, 4, 6, 7, 8, 10, 11, 14, 15, 28, 48, 57, 69] rfl
      refine hK16 _ _ ?_
      refine wp_seq_k (fun K17 hK17 => ?_)
      refine wp_seq_k (fun K18 hK18 => ?_)
      refine wp_plain [true, true, true, true, false, true, false, true, true] rfl rfl ?_
      refine s_move hE rfl rfl ?_; clear hE a; intro a hE
      refine s_bin hE rfl rfl bin_neq rfl ?_; clear hE a; intro a hE
      replace hE := hE.cast 128 rfl (show _ = Value.bool false from (congrArg Value.bool (by decide)))
      refine s_move hE rfl rfl ?_; clear hE a; intro a hE
      refine g_yes hE rfl rfl ?_
      refine s_move hE rfl rfl ?_; clear hE a; intro a hE
      refine g_yes hE rfl rfl ?_
      obtain ⟨cs9, hs9⟩ := own_rd (hM.get 4 rfl)
      refine s_call hE rfl Tryd.call12 (ttop_c b44 h k u44 (allT k (2 ^ h) (playA h (padL (2 ^ h) (ls.take (min ls.length 32))) acs ja)) cs9 _ (hM.get 3 rfl) hs9 hl_k (OkTs.all ((playA_inv (h := h) (OkTs.pad (n := 2 ^ h) hoL) ho_acs (show ja ≤ acs.length by omega)).1)) (by first | decide | omega) (allT_len (Nat.le_of_eq ((playA_inv (h := h) (OkTs.pad (n := 2 ^ h) hoL) ho_acs (show ja ≤ acs.length by omega)).2.trans (padL_length (by rw [hll]; exact hm)))))) rfl ?_
      rintro e w9 ⟨rfl, hN⟩
      refine ⟨_, rfl, trivial, ?_⟩; clear hE a; intro a hE
      replace hM : Mem _ _ w9 [_, _, _, _, _, _, _, _, _, _, _] := hM.call0 hN trivial; clear hN
      refine g_yes hE rfl rfl ?_
      refine s_move hE rfl rfl ?_; clear hE a; intro a hE
      refine g_yes hE rfl rfl ?_
      obtain ⟨cs10, hs10⟩ := own_rd (hM.get 0 rfl)
      refine s_call hE rfl Tryd.call12 (ttop_c b124 h k u124 (allT k (2 ^ h) (playA h (padL (2 ^ h) (ls.take (min ls.length 32))) acs ja)) cs10 _ (hM.get 1 rfl) hs10 hl_k (OkTs.all ((playA_inv (h := h) (OkTs.pad (n := 2 ^ h) hoL) ho_acs (show ja ≤ acs.length by omega)).1)) (by first | decide | omega) (allT_len (Nat.le_of_eq hpn))) rfl ?_
      rintro e w10 ⟨rfl, hN⟩
      refine ⟨_, rfl, trivial, ?_⟩; clear hE a; intro a hE
      replace hM : Mem _ _ w10 [_, _, _, _, _, _, _, _, _, _, _] := hM.call0 hN trivial; clear hN
      refine g_yes hE rfl rfl ?_
      refine s_bin hE rfl rfl (eqa34 (OkTs.get (OkTs.all ((playA_inv (h := h) (OkTs.pad (n := 2 ^ h) hoL) ho_acs (show ja ≤ acs.length by omega)).1)) 1) (OkTs.get (OkTs.all ((playA_inv (h := h) (OkTs.pad (n := 2 ^ h) hoL) ho_acs (show ja ≤ acs.length by omega)).1)) 1)).2 rfl ?_; clear hE a; intro a hE
      refine s_pickf hE rfl rfl rfl ?_; clear hE a; intro a hE
      refine q_nil ?_
      replace hE : Env a 166 [(2, _), (3, _), (4, _), (6, _), (7, _), (8, _), (10, _), (11, _), (14, _), (28, _), (48, _), (57, _), (69, _), (135, _)] := hE.sel [2, 3, 4, 6, 7, 8, 10, 11, 14, 28, 48, 57, 69, 135] rfl
      refine hK18 _ _ ?_
      replace hE := hE.cast 135 rfl (show _ = Value.bool false from (congrArg Value.bool (by simp)))
      refine wp_cond_false (hE.eval rfl) ?_
      refine wp_skip ?_
      refine hK17 _ _ ?_
      refine wp_seq_k (fun K19 hK19 => ?_)
      refine wp_seq_k (fun K20 hK20 => ?_)
      refine wp_plain [true] rfl rfl ?_
      refine s_assign hE rfl rfl ?_; clear hE a; intro a hE
      refine q_nil ?_
      refine hK20 _ _ ?_
      refine wp_block ?_
      replace hE := hE.cast 16 rfl (show _ = Value.int .i64 ((0 + 1 : Nat) : Int) from rfl)
      refine c_loop (fun (i : Nat) a w' => i ≤ 2 * 2 ^ h - 1 ∧ Env a 166 [(2, va), (3, .pointer (some ⟨b3, 0, none⟩)), (4, .pointer (some ⟨b4, 0, none⟩)), (6, .bool false), (7, vl7), (8, .pointer (some ⟨b44, 0, none⟩)), (10, .int .i64 ((2 ^ h : Nat) : Int)), (11, .int .i64 ((ja : Nat) : Int)), (14, .pointer (some ⟨b124, 0, none⟩)), (16, .int .i64 ((i + 1 : Nat) : Int)), (28, .bool false), (48, .bool false), (57, .bool false), (69, .bool false), (135, .bool false)] ∧ Mem w [] w' [own u124 32 ((allT k (2 ^ h) (playA h (padL (2 ^ h) (ls.take (min ls.length 32))) acs ja)).length) ((allT k (2 ^ h) (playA h (padL (2 ^ h) (ls.take (min ls.length 32))) acs ja)).flatMap bv), blk b124 [bv k, [.int .i64 ((h : Nat) : Int)], [u124]] [32, 1, 1] 73, own vl7 32 ((playA h (padL (2 ^ h) (ls.take (min ls.length 32))) acs ja).length) ((playA h (padL (2 ^ h) (ls.take (min ls.length 32))) acs ja).flatMap bv), blk b44 [bv k, [.int .i64 ((h : Nat) : Int)], [u44]] [32, 1, 1] 73, own u44 32 ((allT k (2 ^ h) (playA h (padL (2 ^ h) (ls.take (min ls.length 32))) acs ja)).length) ((allT k (2 ^ h) (playA h (padL (2 ^ h) (ls.take (min ls.length 32))) acs ja)).flatMap bv), rd v37 32 ((ls.take (min ls.length 32)).length) (c - 0) ((ls.take (min ls.length 32)).flatMap bv), blk b4 [[.int .i64 ((h : Nat) : Int)], [v]] [1, 1] 26, blk b3 [bv k] [32] 23, rd v 32 ls.length c (ls.flatMap bv), rd va 34 acs.length ca (acs.flatMap wcl), glb 0]) (fun i => 2 * 2 ^ h - 1 - i) 0 ⟨Nat.zero_le _, hE.sel [2, 3, 4, 6, 7, 8, 10, 11, 14, 16, 28, 48, 57, 69, 135] rfl, hM⟩ ?_
      clear hE hM a; rintro i a w11 ⟨hi, hE, hM⟩
      refine wp_seq_k (fun K21 hK21 => ?_)
      refine wp_seq_k (fun K22 hK22 => ?_)
      refine wp_plain [true, true, true, true] rfl rfl ?_
      refine s_move hE rfl rfl ?_; clear hE a; intro a hE
      refine s_move hE rfl rfl ?_; clear hE a; intro a hE
      refine s_bin hE rfl rfl (show Bin _ _ _ _ _ (.int .i64 ((2 * (2 ^ h) : Nat) : Int)) from bin_mul (by rw [wrap_i64 (by omega) (by omega)]; omega)) rfl ?_; clear hE a; intro a hE
      refine s_bin hE rfl rfl bin_lss rfl ?_; clear hE a; intro a hE
      refine q_nil ?_
      replace hE : Env a 166 [(2, _), (3, _), (4, _), (6, _), (7, _), (8, _), (10, _), (11, _), (14, _), (16, _), (28, _), (48, _), (57, _), (69, _), (135, _), (139, _)] := hE.sel [2, 3, 4, 6, 7, 8, 10, 11, 14, 16, 28, 48, 57, 69, 135, 139] rfl
      refine hK22 _ _ ?_
      refine hE.split 139 rfl (fun hb139 hE' => ?_) (fun hb139 hE' => ?_)
      · replace hE := hE'; clear hE'
        replace hb139 := of_decide_eq_true hb139
        replace hb139 : (i + 1) < (2 * (2 ^ h)) := by omega
        replace hb139 : i < 2 * 2 ^ h - 1 := by omega
        refine wp_cond_true (hE.eval rfl) ?_
        refine wp_skip ?_
        refine hK21 _ _ ?_
        refine wp_seq_k (fun K23 hK23 => ?_)
        refine wp_block ?_
        refine wp_seq_k (fun K24 hK24 => ?_)
        refine wp_plain [true, true, false, true, true, true, false, false, true] rfl rfl ?_
        refine s_move hE rfl rfl ?_; clear hE a; intro a hE
        refine s_move hE rfl rfl ?_; clear hE a; intro a hE
        obtain ⟨cs11, hs11⟩ := own_rd (hM.get 4 rfl)
        refine s_call hE rfl Tryd.call13 (ttagI_c b44 h k u44 (allT k (2 ^ h) (playA h (padL (2 ^ h) (ls.take (min ls.length 32))) acs ja)) cs11 ((i + 1 : Nat) : Int) _ (hM.get 3 rfl) hs11 hl_k (OkTs.all ((playA_inv (h := h) (OkTs.pad (n := 2 ^ h) hoL) ho_acs (show ja ≤ acs.length by omega)).1)) (by first | decide | omega) (allT_len (Nat.le_of_eq ((playA_inv (h := h) (OkTs.pad (n := 2 ^ h) hoL) ho_acs (show ja ≤ acs.length by omega)).2.trans (padL_length (by rw [hll]; exact hm)))))) rfl ?_
        rintro e w12 ⟨rfl, hN⟩
        refine ⟨_, rfl, trivial, ?_⟩; clear hE a; intro a hE
        replace hM : Mem _ _ w12 [_, _, _, _, _, _, _, _, _, _, _] := hM.call0 hN trivial; clear hN
        refine s_move hE rfl rfl ?_; clear hE a; intro a hE
        refine s_extract hE rfl rfl rfl ?_; clear hE a; intro a hE
        refine s_extract hE rfl rfl rfl ?_; clear hE a; intro a hE
        refine s_alloc [32] hE hM zero34 rfl rfl ?_; clear hE a; intro a b17 w13 hE hM'
        clear hM; have hM := hM'; clear hM'
        refine s_storeSeg 0 hE rfl rfl hM rfl sz34 ((bv_length _).trans (tagZ_len (OkTs.all ((playA_inv (h := h) (OkTs.pad (n := 2 ^ h) hoL) ho_acs (show ja ≤ acs.length by omega)).1)))) (bv_one _) rfl ((bv_length _).trans (by first | (simp; done) | (simp [*]; done) | (simp; omega))) rfl (by intro X h; cases h) ?_; intro w14 hM'; clear hM; have hM := hM'; clear hM'
        simp only [List.set_cons_zero, List.set_cons_succ] at hM
        refine s_assign hE rfl rfl ?_; clear hE a; intro a hE
        refine q_nil ?_
        replace hE : Env a 166 [(2, _), (3, _), (4, _), (6, _), (7, _), (8, _), (10, _), (11, _), (14, _), (16, _), (17, _), (18, _), (28, _), (48, _), (57, _), (69, _), (135, _), (139, _)] := hE.sel [2, 3, 4, 6, 7, 8, 10, 11, 14, 16, 17, 18, 28, 48, 57, 69, 135, 139] rfl
        refine hK24 _ _ ?_
        refine wp_seq_k (fun K25 hK25 => ?_)
        refine wp_plain [true, true, false, true, true, true, false, false, true] rfl rfl ?_
        refine s_move hE rfl rfl ?_; clear hE a; intro a hE
        refine s_move hE rfl rfl ?_; clear hE a; intro a hE
        obtain ⟨cs12, hs12⟩ := own_rd (hM.get 1 rfl)
        refine s_call hE rfl Tryd.call13 (ttagI_c b124 h k u124 (allT k (2 ^ h) (playA h (padL (2 ^ h) (ls.take (min ls.length 32))) acs ja)) cs12 ((i + 1 : Nat) : Int) _ (hM.get 2 rfl) hs12 hl_k (OkTs.all ((playA_inv (h := h) (OkTs.pad (n := 2 ^ h) hoL) ho_acs (show ja ≤ acs.length by omega)).1)) (by first | decide | omega) (allT_len (Nat.le_of_eq hpn))) rfl ?_
        rintro e w15 ⟨rfl, hN⟩
        refine ⟨_, rfl, trivial, ?_⟩; clear hE a; intro a hE
        replace hM : Mem _ _ w15 [_, _, _, _, _, _, _, _, _, _, _, _] := hM.call0 hN trivial; clear hN
        refine s_move hE rfl rfl ?_; clear hE a; intro a hE
        refine s_extract hE rfl rfl rfl ?_; clear hE a; intro a hE
        refine s_extract hE rfl rfl rfl ?_; clear hE a; intro a hE
        refine s_alloc [32] hE hM zero34 rfl rfl ?_; clear hE a; intro a b19 w16 hE hM'
        clear hM; have hM := hM'; clear hM'
        refine s_storeSeg 0 hE rfl rfl hM rfl sz34 ((bv_length _).trans (tagZ_len (OkTs.all ((playA_inv (h := h) (OkTs.pad (n := 2 ^ h) hoL) ho_acs (show ja ≤ acs.length by omega)).1)))) (bv_one _) rfl ((bv_length _).trans (by first | (simp; done) | (simp [*]; done) | (simp; omega))) rfl (by intro X h; cases h) ?_; intro w17 hM'; clear hM; have hM := hM'; clear hM'
        simp only [List.set_cons_zero, List.set_cons_succ] at hM
        refine s_assign hE rfl rfl ?_; clear hE a; intro a hE
        refine q_nil ?_
        replace hE : Env a 166 [(2, _), (3, _), (4, _), (6, _), (7, _), (8, _), (10, _), (11, _), (14, _), (16, _), (17, _), (18, _), (19, _), (20, _), (28, _), (48, _), (57, _), (69, _), (135, _), (139, _)] := hE.sel [2, 3, 4, 6, 7, 8, 10, 11, 14, 16, 17, 18, 19, 20, 28, 48, 57, 69, 135, 139] rfl
        refine hK25 _ _ ?_
        refine wp_seq_k (fun K26 hK26 => ?_)
        refine wp_plain [true, true, true, true, true, true, true, true, true, true, true] rfl rfl ?_
        refine s_move hE rfl rfl ?_; clear hE a; intro a hE
        refine s_bin hE rfl rfl bin_neq rfl ?_; clear hE a; intro a hE
        refine s_move hE rfl rfl ?_; clear hE a; intro a hE
        replace hE := hE.cast 156 rfl (show _ = Value.bool false from (congrArg Value.bool (by rw [eZ_in (by omega)]; rfl)))
        refine g_yes hE rfl rfl ?_
        refine s_move hE rfl rfl ?_; clear hE a; intro a hE
        refine g_yes hE rfl rfl ?_
        refine s_bin hE rfl rfl bin_neq rfl ?_; clear hE a; intro a hE
        refine s_pickf hE rfl rfl rfl ?_; clear hE a; intro a hE
        refine s_move hE rfl rfl ?_; clear hE a; intro a hE
        replace hE := hE.cast 160 rfl (show _ = Value.bool false from (congrArg Value.bool (by rw [eZ_in (by omega)]; rfl)))
        refine g_yes hE rfl rfl ?_
        refine s_loadN hE rfl (hM.get 1 rfl) row34 rfl (by intro X h; cases h) rfl ?_; clear hE a; intro a hE
        refine g_yes hE rfl rfl ?_
        refine s_loadN hE rfl (hM.get 0 rfl) row34 rfl (by intro X h; cases h) rfl ?_; clear hE a; intro a hE
        refine g_yes hE rfl rfl ?_
        refine s_bin hE rfl rfl (eqa34 (tagZ_len (OkTs.all ((playA_inv (h := h) (OkTs.pad (n := 2 ^ h) hoL) ho_acs (show ja ≤ acs.length by omega)).1))) (tagZ_len (OkTs.all ((playA_inv (h := h) (OkTs.pad (n := 2 ^ h) hoL) ho_acs (show ja ≤ acs.length by omega)).1)))).2 rfl ?_; clear hE a; intro a hE
        refine s_pickf hE rfl rfl rfl ?_; clear hE a; intro a hE
        refine q_nil ?_
        replace hE : Env a 166 [(2, _), (3, _), (4, _), (6, _), (7, _), (8, _), (10, _), (11, _), (14, _), (16, _), (17, _), (18, _), (19, _), (20, _), (28, _), (48, _), (57, _), (69, _), (135, _), (139, _), (164, _)] := hE.sel [2, 3, 4, 6, 7, 8, 10, 11, 14, 16, 17, 18, 19, 20, 28, 48, 57, 69, 135, 139, 164] rfl
        refine hK26 _ _ ?_
        replace hE := hE.cast 164 rfl (show _ = Value.bool false from (congrArg Value.bool (by simp)))
        refine wp_cond_false (hE.eval rfl) ?_
        refine wp_skip ?_
        refine q_block_n ?_
        refine hK23 _ _ ?_
        refine wp_plain [true, true, true] rfl rfl ?_
        refine s_move hE rfl rfl ?_; clear hE a; intro a hE
        refine s_bin hE rfl rfl (show Bin _ _ _ _ _ (.int .i64 (((i + 1) + 1 : Nat) : Int)) from bin_add (by rw [wrap_i64 (by omega) (by omega)]; omega)) rfl ?_; clear hE a; intro a hE
        refine s_assign hE rfl rfl ?_; clear hE a; intro a hE
        refine q_nil ?_
        replace hE : Env a 166 [(2, _), (3, _), (4, _), (6, _), (7, _), (8, _), (10, _), (11, _), (14, _), (16, _), (17, _), (18, _), (19, _), (20, _), (28, _), (48, _), (57, _), (69, _), (135, _), (139, _), (164, _)] := hE.sel [2, 3, 4, 6, 7, 8, 10, 11, 14, 16, 17, 18, 19, 20, 28, 48, 57, 69, 135, 139, 164] rfl
        replace hE := hE.cast 16 rfl (show _ = Value.int .i64 (((i + 1) + 1 : Nat) : Int) from (congrArg _ (by omega)))
        replace hM : Mem _ _ w17 [_, _, _, _, _, _, _, _, _, _, _] := hM.pick [2, 3, 4, 5, 6, 7, 8, 9, 10, 11, 12] rfl
        exact ⟨i + 1, ⟨by omega, hE.sel [2, 3, 4, 6, 7, 8, 10, 11, 14, 16, 28, 48, 57, 69, 135] rfl, hM⟩, by omega⟩
      · replace hE := hE'; clear hE'
        replace hb139 := of_decide_eq_false hb139
        replace hb139 : ¬ ((i + 1) < (2 * (2 ^ h))) := by omega
        refine wp_cond_false (hE.eval rfl) ?_
        refine wp_exit ?_
        refine q_then_e ?_
        refine q_then_e ?_
        refine q_block_x ?_
        refine hK19 _ _ ?_
        refine wp_seq_k (fun K23 hK23 => ?_)
        refine wp_plain [false, true] rfl rfl ?_
        refine s_call hE rfl Tryd.call9 (works_c  _ (hM.get 10 rfl)) rfl ?_
        rintro e w12 ⟨rfl, hN⟩
        refine ⟨_, rfl, trivial, ?_⟩; clear hE a; intro a hE
        replace hM : Mem _ _ w12 [_, _, _, _, _, _, _, _, _, _, _] := hM.call0 hN trivial; clear hN
        refine s_assign hE rfl rfl ?_; clear hE a; intro a hE
        refine q_nil ?_
        replace hE : Env a 166 [(2, _), (3, _), (4, _), (6, _), (7, _), (8, _), (10, _), (11, _), (14, _), (16, _), (28, _), (48, _), (57, _), (69, _), (135, _), (139, _)] := hE.sel [2, 3, 4, 6, 7, 8, 10, 11, 14, 16, 28, 48, 57, 69, 135, 139] rfl
        refine hK23 _ _ ?_
        refine wp_ret ?_
        refine f_ret1 hE rfl rfl ?_
        exact ⟨(by first | rfl | (simp; done)), hM.pick [] rfl⟩
theorem treeAnew_c (k : List UInt8) (y : Int) (v : Value) (ls : List (List UInt8)) (c : Nat) (va : Value) (acs : List Wr) (ca : Nat) (w : World) (hG : (glb 0).holds w) (hl_k : k.length = 32) (hr_ls : (rd v 32 ls.length c (ls.flatMap bv)).holds w) (ho_ls : ∀ x, x ∈ ls → x.length = 32) (hr_acs : (rd va 34 acs.length ca (acs.flatMap wcl)).holds w) (ho_acs : ∀ x, x ∈ acs → OkAc x) : Calls Tryd.prog 3 #[.agg (bv k).toArray, .agg ([[.int .i64 y], [v]] : List (List Value)).flatten.toArray, va] w fun e w' => e = .returned (.bool true) ∧ Mem w [] w' [] := by
  by_cases h1 : 5 < y ∧ y ≤ 12
  · exact treeAnew_big k y v ls c va acs ca w hG hl_k hr_ls ho_ls hr_acs ho_acs h1
  · by_cases h2 : 1 ≤ y ∧ y ≤ 12
    · obtain ⟨h, rfl⟩ : ∃ h : Nat, y = (h : Int) := ⟨y.toNat, by omega⟩
      by_cases h3 : min ls.length 32 ≤ 2 ^ h
      · exact treeAnew_ok k h v ls c va acs ca w hG hl_k hr_ls ho_ls hr_acs ho_acs (by omega) h3
      · exact treeAnew_no2 k h v ls c va acs ca w hG hl_k hr_ls ho_ls hr_acs ho_acs (by omega) h3
    · exact treeAnew_no1 k y v ls c va acs ca w hG hl_k hr_ls ho_ls hr_acs ho_acs h2
set_option maxRecDepth 100000 in
theorem treeAnew_lifted (os : Os) (started : os.Started) (H : Type) (enc : TypeId × Value → H) :
    ReturnsInHanded {} Tryd.checked os 3 .any (fun w args => (Rows.treeAnewSpec.pre enc Tryd.prog Tryd.f3 [] false w args ∧ laidMetH Tryd.prog Rows.treeAnewRow.laid w) ∧ sizedMet enc Tryd.prog Tryd.f3 (OpenSpec.ofChange Rows.treeAnewSpec) false w args) (Rows.treeAnewSpec.post enc Tryd.prog Tryd.f3 false true false false) := by
  refine law_liftedL (C := Tryd.checked) (fn := Tryd.f3) (l := Rows.treeAnewRow.laid) (by kernel_rfl) started (by kernel_rfl) Tryd.func3 rfl (fun ds hl => ?_) rfl Tryd.underlying4 (by kernel_rfl) (of_decide_eq_true (by kernel_rfl)) (by kernel_rfl)
    (ChangeSpec.witness_shaped (enc := enc) (C := Tryd.checked) (os := os) (X := fun w _ => laidMetH Tryd.prog Rows.treeAnewRow.laid w) false (World.laidAll Tryd.prog os Rows.treeAnewRow.laid) #[.agg (bv (List.replicate 32 0)).toArray, .agg ([Value.int .i64 0] ++ [Value.slice none 0 0]).toArray, .slice none 0 0] 8 (World.laidAll_os _ _ _) (World.shaped_of_ZipB (by kernel_rfl) (by kernel_rfl)) (by kernel_rfl) (by kernel_rfl) (by kernel_rfl) (by rw [MakeChecks.laidMetH_plain _ _ _ (by kernel_rfl)]; exact laidMet_laidAll _ (by kernel_rfl) (by kernel_rfl))) ?_
  · rw [Tryd.params3] at hl
    match ds, hl with
    | [_, _, _], _ => rfl
  · intro W base args ds ps hval hA hw hL
    have hG := glb_of_laid (P := Tryd.prog) (g := 0) (t := 123) (e := 102) (by kernel_rfl) (by kernel_rfl) Tryd.underlying123 Tryd.underlying102 (by kernel_rfl) (by kernel_rfl) (by kernel_rfl) (show laidMet Tryd.prog (_ :: _) W from hL)
    rw [Tryd.params3] at hA hval hw
    obtain ⟨v0, vs0, d0, ds0, p0, q0, hargs, rfl, rfl, h0, r0⟩ := trodAll_cons hA
    obtain ⟨v1, vs1, d1, ds1, p1, q1, rfl, rfl, rfl, h1, r1⟩ := trodAll_cons r0
    obtain ⟨v2, vs2, d2, ds2, p2, q2, rfl, rfl, rfl, h2, r2⟩ := trodAll_cons r1
    obtain ⟨rfl, rfl, rfl⟩ := trodAll_nil r2
    obtain rfl : args = #[v0, v1, v2] := by cases args; simp_all
    obtain ⟨a0, rfl, ha0⟩ := arg_arr8 Tryd.underlying23 Tryd.underlying5 (by kernel_rfl) (by kernel_rfl) (hval 0 23 v0 rfl rfl) h0 (fun m hm => hw m (by simp only [DataW.weightsEach, List.mem_append]; exact .inl hm))
    obtain ⟨cs1, rfl, hcs1⟩ := okWide_struct Tryd.underlying26 (hval 1 26 v1 rfl rfl)
    obtain ⟨_, _, hc1, ⟨y, rfl, hy1, hy2⟩, ⟨v, ls, c, rfl, hr_ls, ho_ls, hn_ls⟩⟩ := trod_of (dec_f2 (t := 26) (s := 2) (n0 := 1) (n1 := 1) Tryd.underlying26 (by kernel_rfl) (by kernel_rfl) rfl (dec_int Tryd.underlying3) (dec_rowsV (es := 32) (by_ := 32) Tryd.underlying24 (by kernel_rfl) (by kernel_rfl) (by decide) (dec_arr8 (n := 32) Tryd.underlying34 Tryd.underlying5 (by kernel_rfl) (by kernel_rfl)))) h1 (fun m hm => hw m (by simp only [DataW.weightsEach, List.mem_append]; exact .inr (.inl hm)))
    have ecs1 := agg_of hc1
    subst ecs1
    obtain ⟨acs, ca, hr_acs, ho_acs, hn_acs⟩ := arg_rowsB (es := 34) Tryd.underlying27 (by kernel_rfl) (by kernel_rfl) (by decide) (by decide : 0 < 48) (dec_ac (t0 := 3) (t1 := 3) (t2 := 34) Tryd.underlying39 (by kernel_rfl) (by kernel_rfl) Tryd.underlying3 Tryd.underlying3 Tryd.underlying34 Tryd.underlying5 (by kernel_rfl) (by kernel_rfl)) (hval 2 27 v2 rfl rfl) h2 (fun m hm => hw m (by simp only [DataW.weightsEach, List.mem_append]; exact .inr (.inr (.inl hm))))
    have ef : ∀ (a b : List Value), ([a, b] : List (List Value)).flatten = a ++ b := fun a b => by simp
    have ef3 : ∀ (a b c : List Value), ([a, b, c] : List (List Value)).flatten = a ++ (b ++ c) := fun a b c => by simp
    exact (by have h := treeAnew_c a0 y v ls c v2 acs ca W hG ha0 hr_ls ho_ls hr_acs ho_acs; rw [ef] at h; exact h)

/-- The row's statement. -/
theorem treeAnew_row : Rows.TreeAnewSaid :=
  OpenClaim.holds_of_wide 3 Tryd.f3 rfl rfl rfl rfl rfl rfl rfl ⟨rfl, rfl, rfl, rfl, rfl⟩ rfl rfl rfl rfl rfl (by kernel_rfl) Tryd.func3 (by kernel_rfl)
    (of_decide_eq_true (by kernel_rfl)) (by unfold Func.isWrapper; first | (rw [if_pos (by decide +kernel)]; kernel_rfl) | (rw [if_neg (by decide +kernel)]; exact ⟨rfl, rfl⟩))
    (fun os started H enc _ => treeAnew_lifted os started H enc)

/-- The statement: the row, its listed variable tied to the program's text. -/
theorem treeAnew_holds : Rows.TreeAnewCardSaid :=
  Claim7.holds_tied_plain_at .later [] [.data] true (true, "3e37e367fa882af65b92501024ce61bfddfc4c8207345e6e4fc0786d0584de6e") false
    treeAnew_row (fun _ h => by cases h) (by kernel_rfl) (fun _ h => by cases h) treeAnew_row_tie rfl ⟨rfl, rfl⟩ (by kernel_rfl) rfl
    (fun f fn hf hfn => by
      obtain rfl : f = 3 := Option.some.inj ((show Tryd.prog.funcNamed "casemate/casematelaw18.TreeAnew" = some 3 by kernel_rfl).symm.trans hf) |>.symm
      obtain rfl : fn = Tryd.f3 := (Option.some.inj (Tryd.func3.symm.trans hfn)).symm
      exact ⟨by kernel_rfl, fun j t ht => by
        rw [Tryd.params3] at ht
        have h : t ∈ [23, 26, 27] := by
          rcases j with _ | _ | _ | j
          · simp at ht; simp [ht]
          · simp at ht; simp [ht]
          · simp at ht; simp [ht]
          · simp at ht
        simp only [List.mem_cons, List.not_mem_nil, or_false] at h
        rcases h with rfl | rfl | rfl
        · exact (show Tryd.prog.wantsStandIn 23 = false by kernel_rfl)
        · exact (show Tryd.prog.wantsStandIn 26 = false by kernel_rfl)
        · exact (show Tryd.prog.wantsStandIn 27 = false by kernel_rfl)⟩)
    (by kernel_rfl)
#print axioms treeAnew_holds
end Go.Proofs.YtacebdngbalkmaaDoor
