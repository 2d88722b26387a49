/- Walks of functions of the given program that the claim reaches. -/
import Derived.Test.YtacebdngbalkmaaDoorLb
set_option linter.unusedSimpArgs false
set_option linter.unusedVariables false
namespace Go.Proofs.YtacebdngbalkmaaDoor
open Go Go.Kx
theorem arr23 : arrT Tryd.prog 23 = some (32, 1) := by kernel_rfl
theorem row23 : RowT Tryd.prog 23 32 := RowT.of Tryd.underlying23 rfl (by kernel_rfl)
theorem tof_c (k : List UInt8) (v : Value) (m : List UInt8) (c : Nat) (w : World) (hG : (glb 0).holds w) (hl_k : k.length = 32) (hr_m : (rd v 1 m.length c (bv m)).holds w) (hm : m.length ≤ 200000) : Calls Tryd.prog 34 #[.agg (bv k).toArray, v] w fun e w' => e = .returned (.agg (bv (hmacW k m)).toArray) ∧ Mem w [] w' [] := by
  have hM : Mem w [] w [rd v 1 m.length c (bv m), glb 0] := Mem.startR w (fun g hg => by
    simp only [List.mem_cons, List.not_mem_nil, or_false] at hg
    rcases hg with rfl | rfl
    · exact ⟨hr_m, rfl⟩
    · exact ⟨hG, rfl⟩)
  refine f_enter 8 Tryd.func34 rfl rfl rfl ?_
  intro a hE
  replace hE : Env a 8 [(0, _), (1, _)] := hE
  refine wp_seq_k (fun K1 hK1 => ?_)
  refine wp_plain [false, false] rfl rfl ?_
  refine s_box (ss := [bv k]) [32] hE hM rfl (by simp [Value.cells]) (by simp [*]) rfl ?_; clear hE a; intro a b2 w1 hE hM'
  clear hM; have hM := hM'; clear hM'
  refine s_alloc [32] hE hM zero34 rfl rfl ?_; clear hE a; intro a b4 w2 hE hM'
  clear hM; have hM := hM'; clear hM'
  refine q_nil ?_
  replace hE : Env a 8 [(1, _), (2, _), (4, _)] := hE.sel [1, 2, 4] rfl
  refine hK1 _ _ ?_
  refine wp_seq_k (fun K2 hK2 => ?_)
  refine wp_plain [true, true, false, false] rfl rfl ?_
  refine s_sliceArr (l := 0) (h := 32) (mx' := 32) hE rfl arr23 rfl rfl rfl (by simp) (by omega) (by omega) (by omega) rfl ?_; clear hE a; intro a hE
  replace hE := hE.cast 5 rfl (show _ = Value.slice (some ⟨b2, 0, none⟩) 32 32 from rfl)
  refine s_move hE rfl rfl ?_; clear hE a; intro a hE
  refine s_call hE rfl Tryd.call43 (of_c _ _ k m _ _ _ (hM.get 3 rfl) (rd_of_arr (hM.get 1 rfl) hl_k) (hM.get 2 rfl) (by have hl_q : k.length = 32 := hl_k; first | omega | assumption | (simp; done) | (simp; omega) | decide) (by first | omega | assumption | (simp; done) | (simp; omega) | decide)) rfl ?_
  rintro e w3 ⟨rfl, hN⟩
  refine ⟨_, rfl, trivial, ?_⟩; clear hE a; intro a hE
  replace hM : Mem _ _ w3 [_, _, _, _] := hM.call0 hN trivial; clear hN
  refine s_storeSeg 0 hE rfl rfl hM rfl sz34 ((bv_length _).trans (hmacW_length ..)) (bv_one _) rfl ((bv_length _).trans (by first | (simp; done) | (simp [*]; done) | (simp; omega))) rfl (by intro X h; cases h) ?_; intro w4 hM'; clear hM; have hM := hM'; clear hM'
  simp only [List.set_cons_zero, List.set_cons_succ] at hM
  refine q_nil ?_
  replace hE : Env a 8 [(4, _)] := hE.sel [4] rfl
  refine hK2 _ _ ?_
  refine wp_ret ?_
  refine f_ret1 hE rfl (res_cellN rfl (hM.get 0 rfl) row34 rfl) ?_
  exact ⟨(by first | rfl | (simp; done)), hM.pick [] rfl⟩
theorem tnode_c (k : List UInt8) (z : Int) (s : List UInt8) (w : World) (hG : (glb 0).holds w) (hl_k : k.length = 32) (hl_s : s.length = 64) : Calls Tryd.prog 17 #[.agg (bv k).toArray, .int .i64 z, .agg (bv s).toArray] w fun e w' => e = .returned (.agg (bv (hmacW k (numT 78 z s))).toArray) ∧ Mem w [] w' [] := by
  have hM : Mem w [] w [glb 0] := Mem.startR w (fun g hg => by
    simp only [List.mem_cons, List.not_mem_nil, or_false] at hg
    rcases hg with rfl
    · exact ⟨hG, rfl⟩)
  refine f_enter 12 Tryd.func17 rfl rfl rfl ?_
  intro a hE
  replace hE : Env a 12 [(0, _), (1, _), (2, _)] := hE
  refine wp_seq_k (fun K1 hK1 => ?_)
  refine wp_plain [false, false, false] rfl rfl ?_
  refine s_box (ss := [bv k]) [32] hE hM rfl (by simp [Value.cells]) (by simp [*]) rfl ?_; clear hE a; intro a b3 w1 hE hM'
  clear hM; have hM := hM'; clear hM'
  refine s_box (ss := [bv s]) [64] hE hM rfl (by simp [Value.cells]) (by simp [*]) rfl ?_; clear hE a; intro a b5 w2 hE hM'
  clear hM; have hM := hM'; clear hM'
  refine s_alloc [32] hE hM zero34 rfl rfl ?_; clear hE a; intro a b6 w3 hE hM'
  clear hM; have hM := hM'; clear hM'
  refine q_nil ?_
  replace hE : Env a 12 [(1, _), (3, _), (5, _), (6, _)] := hE.sel [1, 3, 5, 6] rfl
  refine hK1 _ _ ?_
  refine wp_seq_k (fun K2 hK2 => ?_)
  refine wp_treeM hM (by kernel_rfl) (fun _ => True) (fun _ => True) (.re [(1, true), (0, true), (2, true), (3, false), (4, false), (5, false)] (.fl 1 (.weak (.fl 2 (.or 3 (.cut (.re [(4, false), (5, false)] (.fl 0 (.fl 0 (.or 4 (.re [(5, false)] (.fl 0 (.fl 0 (.weak (.or 5 (.cut (.re [] (.weak (.leaf 0)))) (.stop)))))) (.stop)))))) (.stop)))))) [(1, true), (0, true), (2, true), (3, false), (4, false), (5, false)] [(0, [(4, 0), (5, 0)]), (2, [(3, 2), (4, 3), (5, 2)]), (3, [(4, 3), (5, 3)]), (4, [(5, 4)]), (5, [])] (by kernel_rfl) ?_
  intro w4 hM' hww4; clear hM; have hM := hM'; clear hM'
  refine o_re ?_
  refine o_fl rfl ?_
  refine s_move hE rfl rfl ?_; clear hE a; intro a hE
  refine q_nil (q_nx ?_)
  refine o_weak (fun _ => False) (fun _ _ => trivial) ?_
  refine o_fl rfl ?_
  refine s_loadN hE rfl (hM.get 2 rfl) row23 rfl (by intro X h; cases h; simp) rfl ?_; clear hE a; intro a hE
  refine s_loadN hE rfl (hM.get 1 rfl) row52 rfl (by intro X h; cases h; simp) rfl ?_; clear hE a; intro a hE
  refine q_nil (q_nx ?_)
  refine o_or rfl ?_ ?_
  · refine s_call hE rfl Tryd.call35 (bnodetext_c z s _ (by first | omega | assumption | (simp; done) | (simp; omega) | decide)) rfl ?_
    rintro e w5 ⟨v10, rfl, hN⟩
    refine ⟨_, rfl, hN.sta0 _, ?_⟩; clear hE a; intro a hE
    replace hM : Mem _ _ w5 [_, _, _, _, _] := hM.call0 hN ⟨rfl, trivial⟩; clear hN
    refine q_nil (q_nx ?_)
    refine o_cut (fun _ => True) ?_
    refine o_re ?_
    refine o_fl rfl ?_
    refine q_nil (q_nx ?_)
    refine o_fl rfl ?_
    refine q_nil (q_nx ?_)
    refine o_or rfl ?_ ?_
    · obtain ⟨cq1, hq1⟩ := own_rd (hM.get 0 rfl)
      refine s_call hE rfl Tryd.call34 (tof_c k _ (numT 78 z s) _ _ (hM.get 4 rfl) hl_k hq1 (by have hl_0 : k.length = 32 := hl_k; have hl_1 : (numT 78 z s).length = 82 := ((numT_len ..).trans (by have hl_ : s.length = 64 := hl_s; simp [*])); first | omega | assumption | (simp; done) | (simp; omega) | decide)) rfl ?_
      rintro e w6 ⟨rfl, hN⟩
      refine ⟨_, rfl, hN.sta0 _, ?_⟩; clear hE a; intro a hE
      replace hM : Mem _ _ w6 [_, _, _, _, _] := hM.call0 hN trivial; clear hN
      refine q_nil (q_nx ?_)
      refine o_re ?_
      refine o_fl rfl ?_
      refine q_nil (q_nx ?_)
      refine o_fl rfl ?_
      refine q_nil (q_nx ?_)
      refine o_weak (fun b => b = b6) (fun _ _ => trivial) ?_
      refine o_or rfl ?_ ?_
      · replace hM : Mem _ _ w6 [_, _, _, _, _] := hM.pick [1, 0, 2, 3, 4] rfl
        refine s_storeSeg 0 hE rfl rfl hM rfl sz34 ((bv_length _).trans (by first | (simp; done) | (simp [*]; done) | (simp; omega))) (bv_one _) rfl ((bv_length _).trans (by first | (simp; done) | (simp [*]; done) | (simp; omega))) rfl (by intro X h; cases h; rfl) ?_; intro w7 hM'; clear hM; have hM := hM'; clear hM'
        simp only [List.set_cons_zero, List.set_cons_succ] at hM
        refine q_nil (q_nx ?_)
        refine o_cut (fun _ => True) ?_
        refine o_re ?_
        refine o_weak (fun _ => False) (fun _ _ => trivial) ?_
        refine o_leaf rfl rfl ?_
        refine q_nil (q_ph (q_nil ?_))
        replace hE : Env a 12 [(6, _)] := hE.sel [6] rfl
        refine hK2 _ _ ?_
        refine wp_ret ?_
        refine f_ret1 hE rfl (res_cellN rfl (hM.get 0 rfl) row34 rfl) ?_
        exact ⟨(by first | rfl | (simp; done)), hM.pick [] rfl⟩
      trivial
    trivial
  trivial
theorem rpart_c (v : Value) (m : List UInt8) (c : Nat) (w : World) (hr_m : (rd v 1 m.length c (bv m)).holds w) (hm : m.length ≤ 200000) : Calls Tryd.prog 50 #[v] w fun e w' => ∃ v', e = .returned (v') ∧ Mem w [] w' [own v' 1 (laid 4 m.length ++ m).length (bv (laid 4 m.length ++ m))] := by
  have hM : Mem w [] w [rd v 1 m.length c (bv m)] := Mem.startR w (fun g hg => by
    simp only [List.mem_cons, List.not_mem_nil, or_false] at hg
    rcases hg with rfl
    · exact ⟨hr_m, rfl⟩)
  refine f_enter 22 Tryd.func50 rfl rfl rfl ?_
  intro a hE
  replace hE : Env a 22 [(0, _)] := hE
  refine wp_seq_k (fun K1 hK1 => ?_)
  refine wp_plain [true] rfl rfl ?_
  refine s_assign hE rfl rfl ?_; clear hE a; intro a hE
  refine q_nil ?_
  refine hK1 _ _ ?_
  refine wp_seq_k (fun K2 hK2 => ?_)
  refine wp_plain [true, true, true] rfl rfl ?_
  refine s_move hE rfl rfl ?_; clear hE a; intro a hE
  refine s_len hE rfl Tryd.underlying82 (rd_slice (hM.get 0 rfl)) rfl ?_; clear hE a; intro a hE
  refine s_assign hE rfl rfl ?_; clear hE a; intro a hE
  refine q_nil ?_
  replace hE : Env a 22 [(0, _), (2, _), (3, _)] := hE.sel [0, 2, 3] rfl
  refine hK2 _ _ ?_
  refine wp_seq_k (fun K3 hK3 => ?_)
  refine wp_plain [true, true, true, true, true, true, true, true, true, true, true, false, true] rfl rfl ?_
  refine s_move hE rfl rfl ?_; clear hE a; intro a hE
  refine s_bin hE rfl rfl (bin_quo_nat (m := m.length) (s := 16777216) (by decide) (wrap_i64 (by omega) (by omega))) rfl ?_; clear hE a; intro a hE
  refine s_conv hE rfl (cnv_int Tryd.underlying3 Tryd.underlying5 (wrap_u8_ofNat (m.length / 16777216))) rfl ?_; clear hE a; intro a hE
  refine s_move hE rfl rfl ?_; clear hE a; intro a hE
  refine s_bin hE rfl rfl (bin_quo_nat (m := m.length) (s := 65536) (by decide) (wrap_i64 (by omega) (by omega))) rfl ?_; clear hE a; intro a hE
  refine s_conv hE rfl (cnv_int Tryd.underlying3 Tryd.underlying5 (wrap_u8_ofNat (m.length / 65536))) rfl ?_; clear hE a; intro a hE
  refine s_move hE rfl rfl ?_; clear hE a; intro a hE
  refine s_bin hE rfl rfl (bin_quo_nat (m := m.length) (s := 256) (by decide) (wrap_i64 (by omega) (by omega))) rfl ?_; clear hE a; intro a hE
  refine s_conv hE rfl (cnv_int Tryd.underlying3 Tryd.underlying5 (wrap_u8_ofNat (m.length / 256))) rfl ?_; clear hE a; intro a hE
  refine s_move hE rfl rfl ?_; clear hE a; intro a hE
  refine s_conv hE rfl (cnv_int Tryd.underlying3 Tryd.underlying5 (wrap_u8_ofNat (m.length))) rfl ?_; clear hE a; intro a hE
  refine s_buildSlice (xs := [.tmp 9, .tmp 12, .tmp 15, .tmp 17]) (bv [UInt8.ofNat (m.length / 16777216), UInt8.ofNat (m.length / 65536), UInt8.ofNat (m.length / 256), UInt8.ofNat m.length]) hE hM sl82 rfl rfl rfl (by intro v hv; first | (cases hv; done) | (obtain ⟨x, _, rfl⟩ := List.mem_map.1 (show v ∈ bv [UInt8.ofNat (m.length / 16777216), UInt8.ofNat (m.length / 65536), UInt8.ofNat (m.length / 256), UInt8.ofNat m.length] from hv); rfl)) rfl rfl rfl rfl ?_; clear hE a; intro a v18 w1 hE hM'
  clear hM; have hM := hM'; clear hM'
  replace hM := hM.ownEq (m' := [UInt8.ofNat (m.length / 16777216), UInt8.ofNat (m.length / 65536), UInt8.ofNat (m.length / 256), UInt8.ofNat m.length].length) (cs' := bv [UInt8.ofNat (m.length / 16777216), UInt8.ofNat (m.length / 65536), UInt8.ofNat (m.length / 256), UInt8.ofNat m.length]) rfl rfl
  refine s_assign hE rfl rfl ?_; clear hE a; intro a hE
  refine q_nil ?_
  replace hE : Env a 22 [(0, _), (2, _), (4, _)] := hE.sel [0, 2, 4] rfl
  refine hK3 _ _ ?_
  refine wp_seq_k (fun K4 hK4 => ?_)
  refine wp_plain [true, true, false, true] rfl rfl ?_
  refine s_move hE rfl rfl ?_; clear hE a; intro a hE
  refine s_move hE rfl rfl ?_; clear hE a; intro a hE
  refine s_append hE rfl rfl hM sl82 (Src.rd Tryd.underlying82 (hM.get 1 rfl) (bv_one _)) (len47 (by have hl_x : [UInt8.ofNat (m.length / 16777216), UInt8.ofNat (m.length / 65536), UInt8.ofNat (m.length / 256), UInt8.ofNat m.length].length = 4 := (by first | (simp; done) | (simp [*]; done) | (simp; omega)); first | omega | (simp; done) | (simp; omega))) (by have hl_x : [UInt8.ofNat (m.length / 16777216), UInt8.ofNat (m.length / 65536), UInt8.ofNat (m.length / 256), UInt8.ofNat m.length].length = 4 := (by first | (simp; done) | (simp [*]; done) | (simp; omega)); first | omega | (simp; done) | (simp; omega)) (by intro X h; cases h) rfl ?_; clear hE a; intro a v21 w2 hE hM'; clear hM; have hM := hM'; clear hM'
  replace hM := Mem.ownApp (p := [UInt8.ofNat (m.length / 16777216), UInt8.ofNat (m.length / 65536), UInt8.ofNat (m.length / 256), UInt8.ofNat m.length]) (q := m) hM (by first | rfl | (simp; done))
  refine s_assign hE rfl rfl ?_; clear hE a; intro a hE
  refine q_nil ?_
  replace hE : Env a 22 [(0, _), (2, _)] := hE.sel [0, 2] rfl
  refine hK4 _ _ ?_
  refine wp_ret ?_
  refine f_ret1 hE rfl rfl ?_
  replace hM := Mem.ownB (p := [UInt8.ofNat (m.length / 16777216), UInt8.ofNat (m.length / 65536), UInt8.ofNat (m.length / 256), UInt8.ofNat m.length] ++ m) (q := laid 4 m.length ++ m) hM (by rw [laid4])
  exact ⟨_, (by first | rfl | (simp; done)), hM.pick [0] rfl⟩
theorem rtag_c (k : List UInt8) (v : Value) (m : List UInt8) (c : Nat) (w : World) (hl_k : k.length = 32) (hr_m : (rd v 1 m.length c (bv m)).holds w) (hm : m.length ≤ 200000) : Calls Tryd.prog 45 #[.agg (bv k).toArray, v] w fun e w' => e = .returned (.agg (bv (hmacW k m)).toArray) ∧ Mem w [] w' [] := by
  have hM : Mem w [] w [rd v 1 m.length c (bv m)] := Mem.startR w (fun g hg => by
    simp only [List.mem_cons, List.not_mem_nil, or_false] at hg
    rcases hg with rfl
    · exact ⟨hr_m, rfl⟩)
  refine f_enter 20 Tryd.func45 rfl rfl rfl ?_
  intro a hE
  replace hE : Env a 20 [(0, _), (1, _)] := hE
  refine wp_seq_k (fun K1 hK1 => ?_)
  refine wp_plain [false, false] rfl rfl ?_
  refine s_box (ss := [bv k]) [32] hE hM rfl (by simp [Value.cells]) (by simp [*]) rfl ?_; clear hE a; intro a b2 w1 hE hM'
  clear hM; have hM := hM'; clear hM'
  refine s_alloc [32] hE hM zero34 rfl rfl ?_; clear hE a; intro a b4 w2 hE hM'
  clear hM; have hM := hM'; clear hM'
  refine q_nil ?_
  replace hE : Env a 20 [(1, _), (2, _), (4, _)] := hE.sel [1, 2, 4] rfl
  refine hK1 _ _ ?_
  refine wp_seq_k (fun K2 hK2 => ?_)
  refine wp_plain [true] rfl rfl ?_
  refine s_assign hE rfl rfl ?_; clear hE a; intro a hE
  refine q_nil ?_
  refine hK2 _ _ ?_
  refine wp_seq_k (fun K3 hK3 => ?_)
  refine wp_seq_k (fun K4 hK4 => ?_)
  refine wp_plain [true] rfl rfl ?_
  refine s_assign hE rfl rfl ?_; clear hE a; intro a hE
  refine q_nil ?_
  refine hK4 _ _ ?_
  refine wp_block ?_
  replace hM := hM.addNil 1
  replace hM := hM.ownEq (m' := ([] : List UInt8).length) (cs' := bv []) rfl rfl
  replace hM := Mem.ownB (p := ([] : List UInt8)) (q := k.take 0) hM (by first | with_reducible rfl | (simp; done) | (simp [*]; done) | rfl)
  refine c_loop (fun (i : Nat) a w' => i ≤ 32 ∧ ∃ vl5, Env a 20 [(1, v), (2, .pointer (some ⟨b2, 0, none⟩)), (4, .pointer (some ⟨b4, 0, none⟩)), (5, vl5), (6, .int .i64 ((i : Nat) : Int))] ∧ Mem w [] w' [own vl5 1 (k.take i).length (bv (k.take i)), blk b4 [bv (List.replicate 32 (0 : UInt8))] [32] 34, blk b2 [bv k] [32] 23, rd v 1 m.length c (bv m)]) (fun i => 32 - i) 0 ⟨Nat.zero_le _, _, hE.sel [1, 2, 4, 5, 6] rfl, hM⟩ ?_
  clear hE hM a; rintro i a w3 ⟨hi, vl5, hE, hM⟩
  refine wp_seq_k (fun K5 hK5 => ?_)
  refine wp_seq_k (fun K6 hK6 => ?_)
  refine wp_plain [true, true] rfl rfl ?_
  refine s_move hE rfl rfl ?_; clear hE a; intro a hE
  refine s_bin hE rfl rfl bin_lss rfl ?_; clear hE a; intro a hE
  refine q_nil ?_
  replace hE : Env a 20 [(1, _), (2, _), (4, _), (5, _), (6, _), (8, _)] := hE.sel [1, 2, 4, 5, 6, 8] rfl
  refine hK6 _ _ ?_
  refine hE.split 8 rfl (fun hb8 hE' => ?_) (fun hb8 hE' => ?_)
  · replace hE := hE'; clear hE'
    replace hb8 := of_decide_eq_true hb8
    replace hb8 : i < 32 := by omega
    replace hb8 : i < 32 := by omega
    refine wp_cond_true (hE.eval rfl) ?_
    refine wp_skip ?_
    refine hK5 _ _ ?_
    refine wp_seq_k (fun K7 hK7 => ?_)
    refine wp_block ?_
    refine wp_plain [true, true, true, true, false, false, true] rfl rfl ?_
    refine s_move hE rfl rfl ?_; clear hE a; intro a hE
    refine s_move hE rfl rfl ?_; clear hE a; intro a hE
    refine s_indexArr (j := i) hE rfl rfl arr23 (by first | rfl | omega) (by first | omega | decide) rfl ?_; clear hE a; intro a hE
    refine s_loadIdx (j := i) hE rfl (by omega) (hM.get 2 rfl) (bv_get (by have hl_ : k.length = 32 := hl_k; first | omega | (rw [bv_length]; omega) | (simp; omega))) one5 (by intro X h; cases h) rfl ?_; clear hE a; intro a hE
    refine s_buildSlice (xs := [.tmp 14]) (bv [k.getD i 0]) hE hM sl82 rfl rfl rfl (by intro v hv; first | (cases hv; done) | (obtain ⟨x, _, rfl⟩ := List.mem_map.1 (show v ∈ bv [k.getD i 0] from hv); rfl)) rfl rfl rfl rfl ?_; clear hE a; intro a v15 w4 hE hM'
    clear hM; have hM := hM'; clear hM'
    replace hM := hM.ownEq (m' := [k.getD i 0].length) (cs' := bv [k.getD i 0]) rfl rfl
    replace hM : Mem _ _ w4 [_, _, _, _, _] := hM.pick [1, 0, 2, 3, 4] rfl
    obtain ⟨cq1, hq1⟩ := own_rd (hM.get 1 rfl)
    refine s_append hE rfl rfl hM sl82 (Src.rd Tryd.underlying82 hq1 (bv_one _)) (len47 (by have hl_x : (k.take i).length = i := (by simp; omega); have hl_y : [k.getD i 0].length = 1 := (by first | (simp; done) | (simp [*]; done) | (simp; omega)); first | omega | (simp; done) | (simp; omega))) (by have hl_x : (k.take i).length = i := (by simp; omega); have hl_y : [k.getD i 0].length = 1 := (by first | (simp; done) | (simp [*]; done) | (simp; omega)); first | omega | (simp; done) | (simp; omega)) (by intro X h; cases h) rfl ?_; clear hE a; intro a v16 w5 hE hM'; clear hM; have hM := hM'; clear hM'
    replace hM := Mem.ownApp (p := k.take i) (q := [k.getD i 0]) hM (by first | rfl | (simp; done))
    replace hM : Mem _ _ w5 [_, _, _, _] := hM.pick [0, 2, 3, 4] rfl
    refine s_assign hE rfl rfl ?_; clear hE a; intro a hE
    refine q_nil ?_
    replace hE : Env a 20 [(1, _), (2, _), (4, _), (5, _), (6, _), (8, _)] := hE.sel [1, 2, 4, 5, 6, 8] rfl
    refine q_block_n ?_
    refine hK7 _ _ ?_
    refine wp_plain [true, true, true] rfl rfl ?_
    refine s_move hE rfl rfl ?_; clear hE a; intro a hE
    refine s_bin hE rfl rfl (show Bin _ _ _ _ _ (.int .i64 ((i + 1 : Nat) : Int)) from bin_add (by rw [wrap_i64 (by omega) (by omega)]; omega)) rfl ?_; clear hE a; intro a hE
    refine s_assign hE rfl rfl ?_; clear hE a; intro a hE
    refine q_nil ?_
    replace hE : Env a 20 [(1, _), (2, _), (4, _), (5, _), (6, _), (8, _)] := hE.sel [1, 2, 4, 5, 6, 8] rfl
    replace hE := hE.cast 6 rfl (show _ = Value.int .i64 (((i + 1) : Nat) : Int) from (congrArg _ (by omega)))
    replace hM := Mem.ownB (p := (k.take i) ++ [k.getD i 0]) (q := k.take (i + 1)) hM ((take_snoc (by omega)).symm)
    replace hM : Mem _ _ w5 [_, _, _, _] := hM.pick [0, 1, 2, 3] rfl
    exact ⟨i + 1, ⟨by omega, _, hE.sel [1, 2, 4, 5, 6] rfl, hM⟩, by omega⟩
  · replace hE := hE'; clear hE'
    replace hb8 := of_decide_eq_false hb8
    replace hb8 : ¬ (i < 32) := by omega
    obtain rfl : 32 = i := by omega
    replace hM := Mem.ownB (p := k.take 32) (q := k) hM (take_all hl_k)
    refine wp_cond_false (hE.eval rfl) ?_
    refine wp_exit ?_
    refine q_then_e ?_
    refine q_then_e ?_
    refine q_block_x ?_
    refine hK3 _ _ ?_
    refine wp_seq_k (fun K7 hK7 => ?_)
    refine wp_plain [true, true, false, false] rfl rfl ?_
    refine s_move hE rfl rfl ?_; clear hE a; intro a hE
    refine s_move hE rfl rfl ?_; clear hE a; intro a hE
    obtain ⟨cq2, hq2⟩ := own_rd (hM.get 0 rfl)
    refine s_call hE rfl Tryd.call49 (rof_c _ _ k m _ _ _ hq2 (hM.get 3 rfl) (by have hl_q : k.length = 32 := hl_k; first | omega | assumption | (simp; done) | (simp; omega) | decide) (by first | omega | assumption | (simp; done) | (simp; omega) | decide)) rfl ?_
    rintro e w4 ⟨rfl, hN⟩
    refine ⟨_, rfl, trivial, ?_⟩; clear hE a; intro a hE
    replace hM : Mem _ _ w4 [_, _, _, _] := hM.call0 hN trivial; clear hN
    replace hM : Mem _ _ w4 [_, _, _, _] := hM.pick [1, 0, 2, 3] rfl
    refine s_storeSeg 0 hE rfl rfl hM rfl sz34 ((bv_length _).trans (hmacW_length ..)) (bv_one _) rfl ((bv_length _).trans (by first | (simp; done) | (simp [*]; done) | (simp; omega))) rfl (by intro X h; cases h) ?_; intro w5 hM'; clear hM; have hM := hM'; clear hM'
    simp only [List.set_cons_zero, List.set_cons_succ] at hM
    refine q_nil ?_
    replace hE : Env a 20 [(2, _), (4, _), (5, _), (6, _), (8, _)] := hE.sel [2, 4, 5, 6, 8] rfl
    refine hK7 _ _ ?_
    refine wp_ret ?_
    refine f_ret1 hE rfl (res_cellN rfl (hM.get 0 rfl) row34 rfl) ?_
    exact ⟨(by first | rfl | (simp; done)), hM.pick [] rfl⟩
theorem rnumbered_c (dm : UInt8) (z : Int) (s : List UInt8) (w : World) (hl_s : s.length = 64) : Calls Tryd.prog 46 #[.int .u8 (dm.toNat : Int), .int .i64 z, .agg (bv s).toArray] w fun e w' => ∃ v', e = .returned (v') ∧ Mem w [] w' [own v' 1 (numT dm z s).length (bv (numT dm z s))] := by
  have hM := Mem.start0 w
  refine f_enter 50 Tryd.func46 rfl rfl rfl ?_
  intro a hE
  replace hE : Env a 50 [(0, _), (1, _), (2, _)] := hE
  refine wp_seq_k (fun K1 hK1 => ?_)
  refine wp_plain [false, true] rfl rfl ?_
  refine s_box (ss := [bv s]) [64] hE hM rfl (by simp [Value.cells]) (by simp [*]) rfl ?_; clear hE a; intro a b5 w1 hE hM'
  clear hM; have hM := hM'; clear hM'
  refine s_assign hE rfl rfl ?_; clear hE a; intro a hE
  refine q_nil ?_
  replace hE : Env a 50 [(0, _), (1, _), (5, _), (6, _)] := hE.sel [0, 1, 5, 6] rfl
  refine hK1 _ _ ?_
  refine wp_seq_k (fun K2 hK2 => ?_)
  refine wp_plain [true] rfl rfl ?_
  refine s_assign hE rfl rfl ?_; clear hE a; intro a hE
  refine q_nil ?_
  refine hK2 _ _ ?_
  refine wp_seq_k (fun K3 hK3 => ?_)
  refine wp_plain [true, true, true] rfl rfl ?_
  refine s_move hE rfl rfl ?_; clear hE a; intro a hE
  refine s_conv hE rfl (cnv_int Tryd.underlying3 Tryd.underlying94 (wrap_u64_any z)) rfl ?_; clear hE a; intro a hE
  refine s_assign hE rfl rfl ?_; clear hE a; intro a hE
  refine q_nil ?_
  replace hE : Env a 50 [(0, _), (5, _), (6, _), (7, _), (8, _)] := hE.sel [0, 5, 6, 7, 8] rfl
  refine hK3 _ _ ?_
  refine wp_seq_k (fun K4 hK4 => ?_)
  refine wp_seq_k (fun K5 hK5 => ?_)
  refine wp_plain [true] rfl rfl ?_
  refine s_assign hE rfl rfl ?_; clear hE a; intro a hE
  refine q_nil ?_
  refine hK5 _ _ ?_
  refine wp_block ?_
  replace hM := hM.addNil 1
  replace hM := hM.ownEq (m' := ([] : List UInt8).length) (cs' := bv []) rfl rfl
  replace hM := Mem.ownB (p := ([] : List UInt8)) (q := laid 0 (numW z)) hM rfl
  replace hE := hE.cast 8 rfl (show _ = Value.int .u64 ((numW z / 256 ^ 0 : Nat) : Int) from (by first | rfl | simp))
  refine c_loop (fun (i : Nat) a w' => i ≤ 8 ∧ ∃ vl7, Env a 50 [(0, .int .u8 (dm.toNat : Int)), (5, .pointer (some ⟨b5, 0, none⟩)), (6, .slice none 0 0), (7, vl7), (8, .int .u64 ((numW z / 256 ^ i : Nat) : Int)), (9, .int .i64 ((i : Nat) : Int))] ∧ Mem w [] w' [own vl7 1 (laid i (numW z)).length (bv (laid i (numW z))), blk b5 [bv s] [64] 52]) (fun i => 8 - i) 0 ⟨Nat.zero_le _, _, hE.sel [0, 5, 6, 7, 8, 9] rfl, hM⟩ ?_
  clear hE hM a; rintro i a w2 ⟨hi, vl7, hE, hM⟩
  refine wp_seq_k (fun K6 hK6 => ?_)
  refine wp_seq_k (fun K7 hK7 => ?_)
  refine wp_plain [true, true] rfl rfl ?_
  refine s_move hE rfl rfl ?_; clear hE a; intro a hE
  refine s_bin hE rfl rfl bin_lss rfl ?_; clear hE a; intro a hE
  refine q_nil ?_
  replace hE : Env a 50 [(0, _), (5, _), (6, _), (7, _), (8, _), (9, _), (18, _)] := hE.sel [0, 5, 6, 7, 8, 9, 18] rfl
  refine hK7 _ _ ?_
  refine hE.split 18 rfl (fun hb18 hE' => ?_) (fun hb18 hE' => ?_)
  · replace hE := hE'; clear hE'
    replace hb18 := of_decide_eq_true hb18
    replace hb18 : i < 8 := by omega
    replace hb18 : i < 8 := by omega
    refine wp_cond_true (hE.eval rfl) ?_
    refine wp_skip ?_
    refine hK6 _ _ ?_
    refine wp_seq_k (fun K8 hK8 => ?_)
    refine wp_block ?_
    refine wp_seq_k (fun K9 hK9 => ?_)
    refine wp_plain [true, true, false, true, false, true] rfl rfl ?_
    refine s_move hE rfl rfl ?_; clear hE a; intro a hE
    refine s_conv hE rfl (cnv_int Tryd.underlying94 Tryd.underlying5 (wrap_u8_ofNat (numW z / 256 ^ i))) rfl ?_; clear hE a; intro a hE
    refine s_buildSlice (xs := [.tmp 22]) (bv [UInt8.ofNat (numW z / 256 ^ i)]) hE hM sl82 rfl rfl rfl (by intro v hv; first | (cases hv; done) | (obtain ⟨x, _, rfl⟩ := List.mem_map.1 (show v ∈ bv [UInt8.ofNat (numW z / 256 ^ i)] from hv); rfl)) rfl rfl rfl rfl ?_; clear hE a; intro a v23 w3 hE hM'
    clear hM; have hM := hM'; clear hM'
    replace hM := hM.ownEq (m' := [UInt8.ofNat (numW z / 256 ^ i)].length) (cs' := bv [UInt8.ofNat (numW z / 256 ^ i)]) rfl rfl
    refine s_move hE rfl rfl ?_; clear hE a; intro a hE
    obtain ⟨cq1, hq1⟩ := own_rd (hM.get 1 rfl)
    refine s_append hE rfl rfl hM sl82 (Src.rd Tryd.underlying82 hq1 (bv_one _)) (len47 (by have hl_x : [UInt8.ofNat (numW z / 256 ^ i)].length = 1 := (by first | (simp; done) | (simp [*]; done) | (simp; omega)); have hl_y : (laid i (numW z)).length = i := (by simp); first | omega | (simp; done) | (simp; omega))) (by have hl_x : [UInt8.ofNat (numW z / 256 ^ i)].length = 1 := (by first | (simp; done) | (simp [*]; done) | (simp; omega)); have hl_y : (laid i (numW z)).length = i := (by simp); first | omega | (simp; done) | (simp; omega)) (by intro X h; cases h) rfl ?_; clear hE a; intro a v25 w4 hE hM'; clear hM; have hM := hM'; clear hM'
    replace hM := Mem.ownApp (p := [UInt8.ofNat (numW z / 256 ^ i)]) (q := laid i (numW z)) hM (by first | rfl | (simp; done))
    refine s_assign hE rfl rfl ?_; clear hE a; intro a hE
    refine q_nil ?_
    replace hE : Env a 50 [(0, _), (5, _), (6, _), (7, _), (8, _), (9, _), (18, _)] := hE.sel [0, 5, 6, 7, 8, 9, 18] rfl
    refine hK9 _ _ ?_
    refine wp_plain [true, true, true] rfl rfl ?_
    refine s_move hE rfl rfl ?_; clear hE a; intro a hE
    refine s_bin hE rfl rfl (bin_quo_nat (s := 256) (by decide) (wrap_u64_lt (Nat.lt_of_le_of_lt (Nat.div_le_self _ _) (Nat.lt_of_le_of_lt (Nat.div_le_self _ _) (numW_lt z))))) rfl ?_; clear hE a; intro a hE
    refine s_assign hE rfl rfl ?_; clear hE a; intro a hE
    refine q_nil ?_
    replace hE : Env a 50 [(0, _), (5, _), (6, _), (7, _), (8, _), (9, _), (18, _)] := hE.sel [0, 5, 6, 7, 8, 9, 18] rfl
    refine q_block_n ?_
    refine hK8 _ _ ?_
    refine wp_plain [true, true, true] rfl rfl ?_
    refine s_move hE rfl rfl ?_; clear hE a; intro a hE
    refine s_bin hE rfl rfl (show Bin _ _ _ _ _ (.int .i64 ((i + 1 : Nat) : Int)) from bin_add (by rw [wrap_i64 (by omega) (by omega)]; omega)) rfl ?_; clear hE a; intro a hE
    refine s_assign hE rfl rfl ?_; clear hE a; intro a hE
    refine q_nil ?_
    replace hE : Env a 50 [(0, _), (5, _), (6, _), (7, _), (8, _), (9, _), (18, _)] := hE.sel [0, 5, 6, 7, 8, 9, 18] rfl
    replace hE := hE.cast 8 rfl (show _ = Value.int .u64 ((numW z / 256 ^ (i + 1) : Nat) : Int) from (by rw [Nat.div_div_eq_div_mul, ← Nat.pow_succ]))
    replace hE := hE.cast 9 rfl (show _ = Value.int .i64 (((i + 1) : Nat) : Int) from (congrArg _ (by omega)))
    replace hM : Mem _ _ w4 [_, _] := hM.pick [0, 2] rfl
    replace hM := Mem.ownB (p := [UInt8.ofNat (numW z / 256 ^ i)] ++ (laid i (numW z))) (q := laid (i + 1) (numW z)) hM ((laid_cons _ _).symm)
    replace hM : Mem _ _ w4 [_, _] := hM.pick [0, 1] rfl
    exact ⟨i + 1, ⟨by omega, _, hE.sel [0, 5, 6, 7, 8, 9] rfl, hM⟩, by omega⟩
  · replace hE := hE'; clear hE'
    replace hb18 := of_decide_eq_false hb18
    replace hb18 : ¬ (i < 8) := by omega
    obtain rfl : 8 = i := by omega
    refine wp_cond_false (hE.eval rfl) ?_
    refine wp_exit ?_
    refine q_then_e ?_
    refine q_then_e ?_
    refine q_block_x ?_
    refine hK4 _ _ ?_
    refine wp_seq_k (fun K8 hK8 => ?_)
    refine wp_plain [true] rfl rfl ?_
    refine s_assign hE rfl rfl ?_; clear hE a; intro a hE
    refine q_nil ?_
    refine hK8 _ _ ?_
    refine wp_seq_k (fun K9 hK9 => ?_)
    refine wp_seq_k (fun K10 hK10 => ?_)
    refine wp_plain [true] rfl rfl ?_
    refine s_assign hE rfl rfl ?_; clear hE a; intro a hE
    refine q_nil ?_
    refine hK10 _ _ ?_
    refine wp_block ?_
    replace hM := hM.addNil 1
    replace hM := hM.ownEq (m' := ([] : List UInt8).length) (cs' := bv []) rfl rfl
    replace hM := Mem.ownB (p := ([] : List UInt8)) (q := s.take 0) hM (by first | with_reducible rfl | (simp; done) | (simp [*]; done) | rfl)
    refine c_loop (fun (i : Nat) a w' => i ≤ 64 ∧ ∃ vl10, Env a 50 [(0, .int .u8 (dm.toNat : Int)), (5, .pointer (some ⟨b5, 0, none⟩)), (6, .slice none 0 0), (7, vl7), (8, .int .u64 ((numW z / 256 ^ 8 : Nat) : Int)), (9, .int .i64 8), (10, vl10), (11, .int .i64 ((i : Nat) : Int)), (18, .bool false)] ∧ Mem w [] w' [own vl10 1 (s.take i).length (bv (s.take i)), own vl7 1 (laid 8 (numW z)).length (bv (laid 8 (numW z))), blk b5 [bv s] [64] 52]) (fun i => 64 - i) 0 ⟨Nat.zero_le _, _, hE.sel [0, 5, 6, 7, 8, 9, 10, 11, 18] rfl, hM⟩ ?_
    clear hE hM a; rintro i a w3 ⟨hi, vl10, hE, hM⟩
    refine wp_seq_k (fun K11 hK11 => ?_)
    refine wp_seq_k (fun K12 hK12 => ?_)
    refine wp_plain [true, true] rfl rfl ?_
    refine s_move hE rfl rfl ?_; clear hE a; intro a hE
    refine s_bin hE rfl rfl bin_lss rfl ?_; clear hE a; intro a hE
    refine q_nil ?_
    replace hE : Env a 50 [(0, _), (5, _), (6, _), (7, _), (8, _), (9, _), (10, _), (11, _), (18, _), (29, _)] := hE.sel [0, 5, 6, 7, 8, 9, 10, 11, 18, 29] rfl
    refine hK12 _ _ ?_
    refine hE.split 29 rfl (fun hb29 hE' => ?_) (fun hb29 hE' => ?_)
    · replace hE := hE'; clear hE'
      replace hb29 := of_decide_eq_true hb29
      replace hb29 : i < 64 := by omega
      replace hb29 : i < 64 := by omega
      refine wp_cond_true (hE.eval rfl) ?_
      refine wp_skip ?_
      refine hK11 _ _ ?_
      refine wp_seq_k (fun K13 hK13 => ?_)
      refine wp_block ?_
      refine wp_plain [true, true, true, true, false, false, true] rfl rfl ?_
      refine s_move hE rfl rfl ?_; clear hE a; intro a hE
      refine s_move hE rfl rfl ?_; clear hE a; intro a hE
      refine s_indexArr (j := i) hE rfl rfl arr52 (by first | rfl | omega) (by first | omega | decide) rfl ?_; clear hE a; intro a hE
      refine s_loadIdx (j := i) hE rfl (by omega) (hM.get 2 rfl) (bv_get (by have hl_ : s.length = 64 := hl_s; first | omega | (rw [bv_length]; omega) | (simp; omega))) one5 (by intro X h; cases h) rfl ?_; clear hE a; intro a hE
      refine s_buildSlice (xs := [.tmp 35]) (bv [s.getD i 0]) hE hM sl82 rfl rfl rfl (by intro v hv; first | (cases hv; done) | (obtain ⟨x, _, rfl⟩ := List.mem_map.1 (show v ∈ bv [s.getD i 0] from hv); rfl)) rfl rfl rfl rfl ?_; clear hE a; intro a v36 w4 hE hM'
      clear hM; have hM := hM'; clear hM'
      replace hM := hM.ownEq (m' := [s.getD i 0].length) (cs' := bv [s.getD i 0]) rfl rfl
      replace hM : Mem _ _ w4 [_, _, _, _] := hM.pick [1, 0, 2, 3] rfl
      obtain ⟨cq2, hq2⟩ := own_rd (hM.get 1 rfl)
      refine s_append hE rfl rfl hM sl82 (Src.rd Tryd.underlying82 hq2 (bv_one _)) (len47 (by have hl_x : (s.take i).length = i := (by simp; omega); have hl_y : [s.getD i 0].length = 1 := (by first | (simp; done) | (simp [*]; done) | (simp; omega)); first | omega | (simp; done) | (simp; omega))) (by have hl_x : (s.take i).length = i := (by simp; omega); have hl_y : [s.getD i 0].length = 1 := (by first | (simp; done) | (simp [*]; done) | (simp; omega)); first | omega | (simp; done) | (simp; omega)) (by intro X h; cases h) rfl ?_; clear hE a; intro a v37 w5 hE hM'; clear hM; have hM := hM'; clear hM'
      replace hM := Mem.ownApp (p := s.take i) (q := [s.getD i 0]) hM (by first | rfl | (simp; done))
      replace hM : Mem _ _ w5 [_, _, _] := hM.pick [0, 2, 3] rfl
      refine s_assign hE rfl rfl ?_; clear hE a; intro a hE
      refine q_nil ?_
      replace hE : Env a 50 [(0, _), (5, _), (6, _), (7, _), (8, _), (9, _), (10, _), (11, _), (18, _), (29, _)] := hE.sel [0, 5, 6, 7, 8, 9, 10, 11, 18, 29] rfl
      refine q_block_n ?_
      refine hK13 _ _ ?_
      refine wp_plain [true, true, true] rfl rfl ?_
      refine s_move hE rfl rfl ?_; clear hE a; intro a hE
      refine s_bin hE rfl rfl (show Bin _ _ _ _ _ (.int .i64 ((i + 1 : Nat) : Int)) from bin_add (by rw [wrap_i64 (by omega) (by omega)]; omega)) rfl ?_; clear hE a; intro a hE
      refine s_assign hE rfl rfl ?_; clear hE a; intro a hE
      refine q_nil ?_
      replace hE : Env a 50 [(0, _), (5, _), (6, _), (7, _), (8, _), (9, _), (10, _), (11, _), (18, _), (29, _)] := hE.sel [0, 5, 6, 7, 8, 9, 10, 11, 18, 29] rfl
      replace hE := hE.cast 11 rfl (show _ = Value.int .i64 (((i + 1) : Nat) : Int) from (congrArg _ (by omega)))
      replace hM := Mem.ownB (p := (s.take i) ++ [s.getD i 0]) (q := s.take (i + 1)) hM ((take_snoc (by omega)).symm)
      replace hM : Mem _ _ w5 [_, _, _] := hM.pick [0, 1, 2] rfl
      exact ⟨i + 1, ⟨by omega, _, hE.sel [0, 5, 6, 7, 8, 9, 10, 11, 18] rfl, hM⟩, by omega⟩
    · replace hE := hE'; clear hE'
      replace hb29 := of_decide_eq_false hb29
      replace hb29 : ¬ (i < 64) := by omega
      obtain rfl : 64 = i := by omega
      replace hM := Mem.ownB (p := s.take 64) (q := s) hM (take_all hl_s)
      refine wp_cond_false (hE.eval rfl) ?_
      refine wp_exit ?_
      refine q_then_e ?_
      refine q_then_e ?_
      refine q_block_x ?_
      refine hK9 _ _ ?_
      refine wp_seq_k (fun K13 hK13 => ?_)
      refine wp_plain [true, false, true] rfl rfl ?_
      refine s_move hE rfl rfl ?_; clear hE a; intro a hE
      refine s_buildSlice (xs := [.tmp 38, .const (.int .u8 2)]) (bv [dm, 2]) hE hM sl82 rfl rfl rfl (by intro v hv; first | (cases hv; done) | (obtain ⟨x, _, rfl⟩ := List.mem_map.1 (show v ∈ bv [dm, 2] from hv); rfl)) rfl rfl rfl rfl ?_; clear hE a; intro a v39 w4 hE hM'
      clear hM; have hM := hM'; clear hM'
      replace hM := hM.ownEq (m' := [dm, 2].length) (cs' := bv [dm, 2]) rfl rfl
      refine s_assign hE rfl rfl ?_; clear hE a; intro a hE
      refine q_nil ?_
      replace hE : Env a 50 [(5, _), (6, _), (7, _), (8, _), (9, _), (10, _), (11, _), (12, _), (18, _), (29, _)] := hE.sel [5, 6, 7, 8, 9, 10, 11, 12, 18, 29] rfl
      refine hK13 _ _ ?_
      refine wp_seq_k (fun K14 hK14 => ?_)
      refine wp_plain [true, false, true] rfl rfl ?_
      refine s_move hE rfl rfl ?_; clear hE a; intro a hE
      obtain ⟨cq3, hq3⟩ := own_rd (hM.get 2 rfl)
      refine s_call hE rfl Tryd.call50 (rpart_c _ (laid 8 (numW z)) _ _ hq3 (by have hl_0 : (laid 8 (numW z)).length = 8 := (by simp); first | omega | assumption | (simp; done) | (simp; omega) | decide)) rfl ?_
      rintro e w5 ⟨v41, rfl, hN⟩
      refine ⟨_, rfl, trivial, ?_⟩; clear hE a; intro a hE
      replace hM : Mem _ _ w5 [_, _, _, _, _] := hM.call0 hN ⟨rfl, trivial⟩; clear hN
      refine s_assign hE rfl rfl ?_; clear hE a; intro a hE
      refine q_nil ?_
      replace hE : Env a 50 [(5, _), (6, _), (7, _), (8, _), (9, _), (10, _), (11, _), (12, _), (13, _), (18, _), (29, _)] := hE.sel [5, 6, 7, 8, 9, 10, 11, 12, 13, 18, 29] rfl
      refine hK14 _ _ ?_
      refine wp_seq_k (fun K15 hK15 => ?_)
      refine wp_plain [true, false, true] rfl rfl ?_
      refine s_move hE rfl rfl ?_; clear hE a; intro a hE
      obtain ⟨cq4, hq4⟩ := own_rd (hM.get 2 rfl)
      refine s_call hE rfl Tryd.call50 (rpart_c _ s _ _ hq4 (by have hl_0 : s.length = 64 := hl_s; first | omega | assumption | (simp; done) | (simp; omega) | decide)) rfl ?_
      rintro e w6 ⟨v43, rfl, hN⟩
      refine ⟨_, rfl, trivial, ?_⟩; clear hE a; intro a hE
      replace hM : Mem _ _ w6 [_, _, _, _, _, _] := hM.call0 hN ⟨rfl, trivial⟩; clear hN
      refine s_assign hE rfl rfl ?_; clear hE a; intro a hE
      refine q_nil ?_
      replace hE : Env a 50 [(5, _), (6, _), (7, _), (8, _), (9, _), (10, _), (11, _), (12, _), (13, _), (14, _), (18, _), (29, _)] := hE.sel [5, 6, 7, 8, 9, 10, 11, 12, 13, 14, 18, 29] rfl
      refine hK15 _ _ ?_
      refine wp_seq_k (fun K16 hK16 => ?_)
      refine wp_plain [true, true, false, true] rfl rfl ?_
      refine s_move hE rfl rfl ?_; clear hE a; intro a hE
      refine s_move hE rfl rfl ?_; clear hE a; intro a hE
      replace hM : Mem _ _ w6 [_, _, _, _, _, _] := hM.pick [2, 0, 1, 3, 4, 5] rfl
      obtain ⟨cq5, hq5⟩ := own_rd (hM.get 2 rfl)
      refine s_append hE rfl rfl hM sl82 (Src.rd Tryd.underlying82 hq5 (bv_one _)) (len47 (by have hl_x : [dm, 2].length = 2 := (by first | (simp; done) | (simp [*]; done) | (simp; omega)); have hl_y : (laid 4 (laid 8 (numW z)).length ++ (laid 8 (numW z))).length = 4 + (laid 8 (numW z)).length := (by first | (simp; done) | (simp [*]; done) | (simp; omega)); first | omega | (simp; done) | (simp; omega))) (by have hl_x : [dm, 2].length = 2 := (by first | (simp; done) | (simp [*]; done) | (simp; omega)); have hl_y : (laid 4 (laid 8 (numW z)).length ++ (laid 8 (numW z))).length = 4 + (laid 8 (numW z)).length := (by first | (simp; done) | (simp [*]; done) | (simp; omega)); first | omega | (simp; done) | (simp; omega)) (by intro X h; cases h) rfl ?_; clear hE a; intro a v46 w7 hE hM'; clear hM; have hM := hM'; clear hM'
      replace hM := Mem.ownApp (p := [dm, 2]) (q := laid 4 (laid 8 (numW z)).length ++ (laid 8 (numW z))) hM (by first | rfl | (simp; done))
      refine s_assign hE rfl rfl ?_; clear hE a; intro a hE
      refine q_nil ?_
      replace hE : Env a 50 [(5, _), (6, _), (7, _), (8, _), (9, _), (10, _), (11, _), (12, _), (14, _), (18, _), (29, _)] := hE.sel [5, 6, 7, 8, 9, 10, 11, 12, 14, 18, 29] rfl
      refine hK16 _ _ ?_
      refine wp_seq_k (fun K17 hK17 => ?_)
      refine wp_plain [true, true, false, true] rfl rfl ?_
      refine s_move hE rfl rfl ?_; clear hE a; intro a hE
      refine s_move hE rfl rfl ?_; clear hE a; intro a hE
      obtain ⟨cq6, hq6⟩ := own_rd (hM.get 1 rfl)
      refine s_append hE rfl rfl hM sl82 (Src.rd Tryd.underlying82 hq6 (bv_one _)) (len47 (by have hl_x : ([dm, 2] ++ (laid 4 (laid 8 (numW z)).length ++ (laid 8 (numW z)))).length = 2 + (4 + (laid 8 (numW z)).length) := (by first | (simp; done) | (simp [*]; done) | (simp; omega)); have hl_y : (laid 4 s.length ++ s).length = 4 + s.length := (by first | (simp; done) | (simp [*]; done) | (simp; omega)); first | omega | (simp; done) | (simp; omega))) (by have hl_x : ([dm, 2] ++ (laid 4 (laid 8 (numW z)).length ++ (laid 8 (numW z)))).length = 2 + (4 + (laid 8 (numW z)).length) := (by first | (simp; done) | (simp [*]; done) | (simp; omega)); have hl_y : (laid 4 s.length ++ s).length = 4 + s.length := (by first | (simp; done) | (simp [*]; done) | (simp; omega)); first | omega | (simp; done) | (simp; omega)) (by intro X h; cases h) rfl ?_; clear hE a; intro a v49 w8 hE hM'; clear hM; have hM := hM'; clear hM'
      replace hM := Mem.ownApp (p := [dm, 2] ++ (laid 4 (laid 8 (numW z)).length ++ (laid 8 (numW z)))) (q := laid 4 s.length ++ s) hM (by first | rfl | (simp; done))
      refine s_assign hE rfl rfl ?_; clear hE a; intro a hE
      refine q_nil ?_
      replace hE : Env a 50 [(5, _), (6, _), (7, _), (8, _), (9, _), (10, _), (11, _), (12, _), (18, _), (29, _)] := hE.sel [5, 6, 7, 8, 9, 10, 11, 12, 18, 29] rfl
      refine hK17 _ _ ?_
      refine wp_ret ?_
      refine f_ret1 hE rfl rfl ?_
      replace hM := Mem.ownB (p := ([dm, 2] ++ (laid 4 (laid 8 (numW z)).length ++ (laid 8 (numW z)))) ++ (laid 4 s.length ++ s)) (q := numT dm z s) hM (by rw [numT_eq]; simp [*])
      exact ⟨_, (by first | rfl | (simp; done)), hM.pick [0] rfl⟩
theorem rnode_c (k : List UInt8) (z : Int) (s : List UInt8) (w : World) (hl_k : k.length = 32) (hl_s : s.length = 64) : Calls Tryd.prog 38 #[.agg (bv k).toArray, .int .i64 z, .agg (bv s).toArray] w fun e w' => e = .returned (.agg (bv (hmacW k (numT 78 z s))).toArray) ∧ Mem w [] w' [] := by
  have hM := Mem.start0 w
  refine f_enter 12 Tryd.func38 rfl rfl rfl ?_
  intro a hE
  replace hE : Env a 12 [(0, _), (1, _), (2, _)] := hE
  refine wp_seq_k (fun K1 hK1 => ?_)
  refine wp_plain [false, false, false] rfl rfl ?_
  refine s_box (ss := [bv k]) [32] hE hM rfl (by simp [Value.cells]) (by simp [*]) rfl ?_; clear hE a; intro a b3 w1 hE hM'
  clear hM; have hM := hM'; clear hM'
  refine s_box (ss := [bv s]) [64] hE hM rfl (by simp [Value.cells]) (by simp [*]) rfl ?_; clear hE a; intro a b5 w2 hE hM'
  clear hM; have hM := hM'; clear hM'
  refine s_alloc [32] hE hM zero34 rfl rfl ?_; clear hE a; intro a b6 w3 hE hM'
  clear hM; have hM := hM'; clear hM'
  refine q_nil ?_
  replace hE : Env a 12 [(1, _), (3, _), (5, _), (6, _)] := hE.sel [1, 3, 5, 6] rfl
  refine hK1 _ _ ?_
  refine wp_seq_k (fun K2 hK2 => ?_)
  refine wp_treeM hM (by kernel_rfl) (fun _ => True) (fun _ => True) (.re [(1, true), (0, true), (2, true), (3, false), (4, false), (5, false)] (.fl 1 (.weak (.fl 2 (.or 3 (.cut (.re [(4, false), (5, false)] (.fl 0 (.fl 0 (.or 4 (.re [(5, false)] (.fl 0 (.fl 0 (.weak (.or 5 (.cut (.re [] (.weak (.leaf 0)))) (.stop)))))) (.stop)))))) (.stop)))))) [(1, true), (0, true), (2, true), (3, false), (4, false), (5, false)] [(0, [(4, 0), (5, 0)]), (2, [(3, 2), (4, 3), (5, 2)]), (3, [(4, 3), (5, 3)]), (4, [(5, 4)]), (5, [])] (by kernel_rfl) ?_
  intro w4 hM' hww4; clear hM; have hM := hM'; clear hM'
  refine o_re ?_
  refine o_fl rfl ?_
  refine s_move hE rfl rfl ?_; clear hE a; intro a hE
  refine q_nil (q_nx ?_)
  refine o_weak (fun _ => False) (fun _ _ => trivial) ?_
  refine o_fl rfl ?_
  refine s_loadN hE rfl (hM.get 2 rfl) row23 rfl (by intro X h; cases h; simp) rfl ?_; clear hE a; intro a hE
  refine s_loadN hE rfl (hM.get 1 rfl) row52 rfl (by intro X h; cases h; simp) rfl ?_; clear hE a; intro a hE
  refine q_nil (q_nx ?_)
  refine o_or rfl ?_ ?_
  · refine s_call hE rfl Tryd.call46 (rnumbered_c 78 z s _ hl_s) rfl ?_
    rintro e w5 ⟨v10, rfl, hN⟩
    refine ⟨_, rfl, hN.sta0 _, ?_⟩; clear hE a; intro a hE
    replace hM : Mem _ _ w5 [_, _, _, _] := hM.call0 hN ⟨rfl, trivial⟩; clear hN
    refine q_nil (q_nx ?_)
    refine o_cut (fun _ => True) ?_
    refine o_re ?_
    refine o_fl rfl ?_
    refine q_nil (q_nx ?_)
    refine o_fl rfl ?_
    refine q_nil (q_nx ?_)
    refine o_or rfl ?_ ?_
    · obtain ⟨cq1, hq1⟩ := own_rd (hM.get 0 rfl)
      refine s_call hE rfl Tryd.call45 (rtag_c k _ (numT 78 z s) _ _ hl_k hq1 (by have hl_0 : k.length = 32 := hl_k; have hl_1 : (numT 78 z s).length = 82 := ((numT_len ..).trans (by first | rfl | simp [*])); first | omega | assumption | (simp; done) | (simp; omega) | decide)) rfl ?_
      rintro e w6 ⟨rfl, hN⟩
      refine ⟨_, rfl, hN.sta0 _, ?_⟩; clear hE a; intro a hE
      replace hM : Mem _ _ w6 [_, _, _, _] := hM.call0 hN trivial; clear hN
      refine q_nil (q_nx ?_)
      refine o_re ?_
      refine o_fl rfl ?_
      refine q_nil (q_nx ?_)
      refine o_fl rfl ?_
      refine q_nil (q_nx ?_)
      refine o_weak (fun b => b = b6) (fun _ _ => trivial) ?_
      refine o_or rfl ?_ ?_
      · replace hM : Mem _ _ w6 [_, _, _, _] := hM.pick [1, 0, 2, 3] rfl
        refine s_storeSeg 0 hE rfl rfl hM rfl sz34 ((bv_length _).trans (by first | (simp; done) | (simp [*]; done) | (simp; omega))) (bv_one _) rfl ((bv_length _).trans (by first | (simp; done) | (simp [*]; done) | (simp; omega))) rfl (by intro X h; cases h; rfl) ?_; intro w7 hM'; clear hM; have hM := hM'; clear hM'
        simp only [List.set_cons_zero, List.set_cons_succ] at hM
        refine q_nil (q_nx ?_)
        refine o_cut (fun _ => True) ?_
        refine o_re ?_
        refine o_weak (fun _ => False) (fun _ _ => trivial) ?_
        refine o_leaf rfl rfl ?_
        refine q_nil (q_ph (q_nil ?_))
        replace hE : Env a 12 [(6, _)] := hE.sel [6] rfl
        refine hK2 _ _ ?_
        refine wp_ret ?_
        refine f_ret1 hE rfl (res_cellN rfl (hM.get 0 rfl) row34 rfl) ?_
        exact ⟨(by first | rfl | (simp; done)), hM.pick [] rfl⟩
      trivial
    trivial
  trivial
theorem rjoin_c (x : List UInt8) (y : List UInt8) (w : World) (hl_x : x.length = 32) (hl_y : y.length = 32) : Calls Tryd.prog 40 #[.agg (bv x).toArray, .agg (bv y).toArray] w fun e w' => e = .returned (.agg (bv (x ++ y)).toArray) ∧ Mem w [] w' [] := by
  have hM := Mem.start0 w
  refine f_enter 23 Tryd.func40 rfl rfl rfl ?_
  intro a hE
  replace hE : Env a 23 [(0, _), (1, _)] := hE
  refine wp_seq_k (fun K1 hK1 => ?_)
  refine wp_plain [false, false, false] rfl rfl ?_
  refine s_box (ss := [bv x]) [32] hE hM rfl (by simp [Value.cells]) (by simp [*]) rfl ?_; clear hE a; intro a b2 w1 hE hM'
  clear hM; have hM := hM'; clear hM'
  refine s_box (ss := [bv y]) [32] hE hM rfl (by simp [Value.cells]) (by simp [*]) rfl ?_; clear hE a; intro a b3 w2 hE hM'
  clear hM; have hM := hM'; clear hM'
  refine s_alloc [64] hE hM zero52 rfl rfl ?_; clear hE a; intro a b4 w3 hE hM'
  clear hM; have hM := hM'; clear hM'
  refine q_nil ?_
  replace hE : Env a 23 [(2, _), (3, _), (4, _)] := hE.sel [2, 3, 4] rfl
  refine hK1 _ _ ?_
  refine wp_seq_k (fun K2 hK2 => ?_)
  refine wp_plain [false] rfl rfl ?_
  refine s_alloc [64] hE hM zero52 rfl rfl ?_; clear hE a; intro a b5 w4 hE hM'
  clear hM; have hM := hM'; clear hM'
  refine q_nil ?_
  refine hK2 _ _ ?_
  refine wp_seq_k (fun K3 hK3 => ?_)
  refine wp_seq_k (fun K4 hK4 => ?_)
  refine wp_plain [true] rfl rfl ?_
  refine s_assign hE rfl rfl ?_; clear hE a; intro a hE
  refine q_nil ?_
  refine hK4 _ _ ?_
  refine wp_block ?_
  replace hM := Mem.blkB (p := List.replicate 64 (0 : UInt8)) (q := joinI x y 0) hM (by simp [joinI, ← List.replicate_append_replicate])
  refine c_loop (fun (i : Nat) a w' => i ≤ 32 ∧ Env a 23 [(2, .pointer (some ⟨b2, 0, none⟩)), (3, .pointer (some ⟨b3, 0, none⟩)), (4, .pointer (some ⟨b4, 0, none⟩)), (5, .pointer (some ⟨b5, 0, none⟩)), (6, .int .i64 ((i : Nat) : Int))] ∧ Mem w [] w' [blk b5 [bv (joinI x y i)] [64] 52, blk b4 [bv (List.replicate 64 (0 : UInt8))] [64] 52, blk b3 [bv y] [32] 34, blk b2 [bv x] [32] 34]) (fun i => 32 - i) 0 ⟨Nat.zero_le _, hE.sel [2, 3, 4, 5, 6] rfl, hM⟩ ?_
  clear hE hM a; rintro i a w5 ⟨hi, hE, hM⟩
  refine wp_seq_k (fun K5 hK5 => ?_)
  refine wp_seq_k (fun K6 hK6 => ?_)
  refine wp_plain [true, true] rfl rfl ?_
  refine s_move hE rfl rfl ?_; clear hE a; intro a hE
  refine s_bin hE rfl rfl bin_lss rfl ?_; clear hE a; intro a hE
  refine q_nil ?_
  replace hE : Env a 23 [(2, _), (3, _), (4, _), (5, _), (6, _), (8, _)] := hE.sel [2, 3, 4, 5, 6, 8] rfl
  refine hK6 _ _ ?_
  refine hE.split 8 rfl (fun hb8 hE' => ?_) (fun hb8 hE' => ?_)
  · replace hE := hE'; clear hE'
    replace hb8 := of_decide_eq_true hb8
    replace hb8 : i < 32 := by omega
    replace hb8 : i < 32 := by omega
    refine wp_cond_true (hE.eval rfl) ?_
    refine wp_skip ?_
    refine hK5 _ _ ?_
    refine wp_seq_k (fun K7 hK7 => ?_)
    refine wp_block ?_
    refine wp_seq_k (fun K8 hK8 => ?_)
    refine wp_plain [true, true, true, true, true, false] rfl rfl ?_
    refine s_move hE rfl rfl ?_; clear hE a; intro a hE
    refine s_move hE rfl rfl ?_; clear hE a; intro a hE
    refine s_indexArr (j := i) hE rfl rfl arr34 (by first | rfl | omega) (by first | omega | decide) rfl ?_; clear hE a; intro a hE
    refine s_loadIdx (j := i) hE rfl (by omega) (hM.get 3 rfl) (bv_get (by have hl_ : x.length = 32 := hl_x; first | omega | (rw [bv_length]; omega) | (simp; omega))) one5 (by intro X h; cases h) rfl ?_; clear hE a; intro a hE
    refine s_indexArr (j := i) hE rfl rfl arr52 (by first | rfl | omega) (by first | omega | decide) rfl ?_; clear hE a; intro a hE
    refine s_storeIdx (j := i) hE rfl (by omega) rfl hM rfl rfl sz5 (by have hl_ : (joinI x y i).length = 64 := (joinI_len hl_x hl_y (by omega)); first | omega | (rw [bv_length]; omega) | (simp; omega)) (by intro X h; cases h) ?_; intro w6 hM'; clear hM; have hM := hM'; clear hM'
    first | rw [bv_set'] at hM | rw [bv_setI] at hM
    refine q_nil ?_
    replace hE : Env a 23 [(2, _), (3, _), (4, _), (5, _), (6, _), (8, _)] := hE.sel [2, 3, 4, 5, 6, 8] rfl
    refine hK8 _ _ ?_
    refine wp_plain [true, true, true, true, true, true, false] rfl rfl ?_
    refine s_move hE rfl rfl ?_; clear hE a; intro a hE
    refine s_bin hE rfl rfl (show Bin _ _ _ _ _ (.int .i64 ((32 + i : Nat) : Int)) from bin_add (by rw [wrap_i64 (by omega) (by omega)]; omega)) rfl ?_; clear hE a; intro a hE
    refine s_move hE rfl rfl ?_; clear hE a; intro a hE
    refine s_indexArr (j := i) hE rfl rfl arr34 (by first | rfl | omega) (by first | omega | decide) rfl ?_; clear hE a; intro a hE
    refine s_loadIdx (j := i) hE rfl (by omega) (hM.get 2 rfl) (bv_get (by have hl_ : y.length = 32 := hl_y; first | omega | (rw [bv_length]; omega) | (simp; omega))) one5 (by intro X h; cases h) rfl ?_; clear hE a; intro a hE
    refine s_indexArr (j := 32 + i) hE rfl rfl arr52 (by first | rfl | omega) (by first | omega | decide) rfl ?_; clear hE a; intro a hE
    refine s_storeIdx (j := 32 + i) hE rfl (by omega) rfl hM rfl rfl sz5 (by have hl_ : ((joinI x y i).set i (x.getD i 0)).length = 64 := ((List.length_set ..).trans (joinI_len hl_x hl_y (by omega))); first | omega | (rw [bv_length]; omega) | (simp; omega)) (by intro X h; cases h) ?_; intro w7 hM'; clear hM; have hM := hM'; clear hM'
    first | rw [bv_set'] at hM | rw [bv_setI] at hM
    refine q_nil ?_
    replace hE : Env a 23 [(2, _), (3, _), (4, _), (5, _), (6, _), (8, _)] := hE.sel [2, 3, 4, 5, 6, 8] rfl
    refine q_block_n ?_
    refine hK7 _ _ ?_
    refine wp_plain [true, true, true] rfl rfl ?_
    refine s_move hE rfl rfl ?_; clear hE a; intro a hE
    refine s_bin hE rfl rfl (show Bin _ _ _ _ _ (.int .i64 ((i + 1 : Nat) : Int)) from bin_add (by rw [wrap_i64 (by omega) (by omega)]; omega)) rfl ?_; clear hE a; intro a hE
    refine s_assign hE rfl rfl ?_; clear hE a; intro a hE
    refine q_nil ?_
    replace hE : Env a 23 [(2, _), (3, _), (4, _), (5, _), (6, _), (8, _)] := hE.sel [2, 3, 4, 5, 6, 8] rfl
    replace hE := hE.cast 6 rfl (show _ = Value.int .i64 (((i + 1) : Nat) : Int) from (congrArg _ (by omega)))
    replace hM := Mem.blkB (p := ((joinI x y i).set i (x.getD i 0)).set (32 + i) (y.getD i 0)) (q := joinI x y (i + 1)) hM (joinI_set hl_x hl_y (by omega))
    replace hM : Mem _ _ w7 [_, _, _, _] := hM.pick [0, 1, 2, 3] rfl
    exact ⟨i + 1, ⟨by omega, hE.sel [2, 3, 4, 5, 6] rfl, hM⟩, by omega⟩
  · replace hE := hE'; clear hE'
    replace hb8 := of_decide_eq_false hb8
    replace hb8 : ¬ (i < 32) := by omega
    obtain rfl : 32 = i := by omega
    replace hM := Mem.blkB (p := joinI x y 32) (q := x ++ y) hM (joinI_end hl_x hl_y)
    refine wp_cond_false (hE.eval rfl) ?_
    refine wp_exit ?_
    refine q_then_e ?_
    refine q_then_e ?_
    refine q_block_x ?_
    refine hK3 _ _ ?_
    refine wp_seq_k (fun K7 hK7 => ?_)
    refine wp_plain [true, false] rfl rfl ?_
    refine s_loadN hE rfl (hM.get 0 rfl) row52 rfl (by intro X h; cases h) rfl ?_; clear hE a; intro a hE
    replace hM : Mem _ _ w5 [_, _, _, _] := hM.pick [1, 0, 2, 3] rfl
    refine s_storeSeg 0 hE rfl rfl hM rfl sz52 ((bv_length _).trans (by simp [*])) (bv_one _) rfl ((bv_length _).trans (by first | (simp; done) | (simp [*]; done) | (simp; omega))) rfl (by intro X h; cases h) ?_; intro w6 hM'; clear hM; have hM := hM'; clear hM'
    simp only [List.set_cons_zero, List.set_cons_succ] at hM
    refine q_nil ?_
    replace hE : Env a 23 [(2, _), (3, _), (4, _), (5, _), (6, _), (8, _)] := hE.sel [2, 3, 4, 5, 6, 8] rfl
    refine hK7 _ _ ?_
    refine wp_ret ?_
    refine f_ret1 hE rfl (res_cellN rfl (hM.get 0 rfl) row52 rfl) ?_
    exact ⟨(by first | rfl | (simp; done)), hM.pick [] rfl⟩
end Go.Proofs.YtacebdngbalkmaaDoor
