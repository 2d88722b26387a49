/- Walks of functions of the given program that the claim reaches. -/
import Derived.Test.YtacebdngbalkmaaDoorLb
set_option linter.unusedSimpArgs false
set_option linter.unusedVariables false
namespace Go.Proofs.YtacebdngbalkmaaDoor
open Go Go.Kx
theorem arr23 : arrT Tryd.prog 23 = some (32, 1) := by kernel_rfl
theorem row23 : RowT Tryd.prog 23 32 := RowT.of Tryd.underlying23 rfl (by kernel_rfl)
theorem tof_c (k : List UInt8) (v : Value) (m : List UInt8) (c : Nat) (w : World) (hG : (glb 0).holds w) (hl_k : k.length = 32) (hr_m : (rd v 1 m.length c (bv m)).holds w) (hm : m.length ≤ 200000) : Calls Tryd.prog 34 #[.agg (bv k).toArray, v] w fun e w' => e = .returned (.agg (bv (hmacW k m)).toArray) ∧ Mem w [] w' [] := by
  have hM : Mem w [] w [rd v 1 m.length c (bv m), glb 0] := Mem.startR w (fun g hg => by
    simp only [List.mem_cons, List.not_mem_nil, or_false] at hg
    rcases hg with rfl | rfl
    · exact ⟨hr_m, rfl⟩
    · exact ⟨hG, rfl⟩)
  refine f_enter 8 Tryd.func34 rfl rfl rfl ?_
  intro a hE
  replace hE : Env a 8 [(0, _), (1, _)] := hE
  refine wp_seq_k (fun K1 hK1 => ?_)
  refine wp_plain [false, false] rfl rfl ?_
  refine s_box (ss := [bv k]) [32] hE hM rfl (by simp [Value.cells]) (by simp [*]) rfl ?_; clear hE a; intro a b2 w1 hE hM'
  clear hM; have hM := hM'; clear hM'
  refine s_alloc [32] hE hM zero34 rfl rfl ?_; clear hE a; intro a b4 w2 hE hM'
  clear hM; have hM := hM'; clear hM'
  refine q_nil ?_
  replace hE : Env a 8 [(1, _), (2, _), (4, _)] := hE.sel [1, 2, 4] rfl
  refine hK1 _ _ ?_
  refine wp_seq_k (fun K2 hK2 => ?_)
  refine wp_plain [true, true, false, false] rfl rfl ?_
  refine s_sliceArr (l := 0) (h := 32) (mx' := 32) hE rfl arr23 rfl rfl rfl (by simp) (by omega) (by omega) (by omega) rfl ?_; clear hE a; intro a hE
  replace hE := hE.cast 5 rfl (show _ = Value.slice (some ⟨b2, 0, none⟩) 32 32 from rfl)
  refine s_move hE rfl rfl ?_; clear hE a; intro a hE
  refine s_call hE rfl Tryd.call43 (of_c _ _ k m _ _ _ (hM.get 3 rfl) (rd_of_arr (hM.get 1 rfl) hl_k) (hM.get 2 rfl) (by have hl_q : k.length = 32 := hl_k; first | omega | assumption | (simp; done) | (simp; omega) | decide) (by first | omega | assumption | (simp; done) | (simp; omega) | decide)) rfl ?_
  rintro e w3 ⟨rfl, hN⟩
  refine ⟨_, rfl, trivial, ?_⟩; clear hE a; intro a hE
  replace hM : Mem _ _ w3 [_, _, _, _] := hM.call0 hN trivial; clear hN
  refine s_storeSeg 0 hE rfl rfl hM rfl sz34 ((bv_length _).trans (hmacW_length ..)) (bv_one _) rfl ((bv_length _).trans (by first | (simp; done) | (simp [*]; done) | (simp; omega))) rfl (by intro X h; cases h) ?_; intro w4 hM'; clear hM; have hM := hM'; clear hM'
  simp only [List.set_cons_zero, List.set_cons_succ] at hM
  refine q_nil ?_
  replace hE : Env a 8 [(4, _)] := hE.sel [4] rfl
  refine hK2 _ _ ?_
  refine wp_ret ?_
  refine f_ret1 hE rfl (res_cellN rfl (hM.get 0 rfl) row34 rfl) ?_
  exact ⟨(by first | rfl | (simp; done)), hM.pick [] rfl⟩
theorem tnode_c (k : List UInt8) (z : Int) (s : List UInt8) (w : World) (hG : (glb 0).holds w) (hl_k : k.length = 32) (hl_s : s.length = 64) : Calls Tryd.prog 17 #[.agg (bv k).toArray, .int .i64 z, .agg (bv s).toArray] w fun e w' => e = .returned (.agg (bv (hmacW k (numT 78 z s))).toArray) ∧ Mem w [] w' [] := by
  have hM : Mem w [] w [glb 0] := Mem.startR w (fun g hg => by
    simp only [List.mem_cons, List.not_mem_nil, or_false] at hg
    rcases hg with rfl
    · exact ⟨hG, rfl⟩)
  refine f_enter 12 Tryd.func17 rfl rfl rfl ?_
  intro a hE
  replace hE : Env a 12 [(0, _), (1, _), (2, _)] := hE
  refine wp_seq_k (fun K1 hK1 => ?_)
  refine wp_plain [false, false, false] rfl rfl ?_
  refine s_box (ss := [bv k]) [32] hE hM rfl (by simp [Value.cells]) (by simp [*]) rfl ?_; clear hE a; intro a b3 w1 hE hM'
  clear hM; have hM := hM'; clear hM'
  refine s_box (ss := [bv s]) [64] hE hM rfl (by simp [Value.cells]) (by simp [*]) rfl ?_; clear hE a; intro a b5 w2 hE hM'
  clear hM; have hM := hM'; clear hM'
  refine s_alloc [32] hE hM zero34 rfl rfl ?_; clear hE a; intro a b6 w3 hE hM'
  clear hM; have hM := hM'; clear hM'
  refine q_nil ?_
  replace hE : Env a 12 [(1, _), (3, _), (5, _), (6, _)] := hE.sel [1, 3, 5, 6] rfl
  refine hK1 _ _ ?_
  refine wp_seq_k (fun K2 hK2 => ?_)
  refine wp_treeM hM (by kernel_rfl) (fun _ => True) (fun _ => True) (.re [(1, true), (0, true), (2, true), (3, false), (4, false), (5, false)] (.fl 1 (.weak (.fl 2 (.or 3 (.cut (.re [(4, false), (5, false)] (.fl 0 (.fl 0 (.or 4 (.re [(5, false)] (.fl 0 (.fl 0 (.weak (.or 5 (.cut (.re [] (.weak (.leaf 0)))) (.stop)))))) (.stop)))))) (.stop)))))) [(1, true), (0, true), (2, true), (3, false), (4, false), (5, false)] [(0, [(4, 0), (5, 0)]), (2, [(3, 2), (4, 3), (5, 2)]), (3, [(4, 3), (5, 3)]), (4, [(5, 4)]), (5, [])] (by kernel_rfl) ?_
  intro w4 hM' hww4; clear hM; have hM := hM'; clear hM'
  refine o_re ?_
  refine o_fl rfl ?_
  refine s_move hE rfl rfl ?_; clear hE a; intro a hE
  refine q_nil (q_nx ?_)
  refine o_weak (fun _ => False) (fun _ _ => trivial) ?_
  refine o_fl rfl ?_
  refine s_loadN hE rfl (hM.get 2 rfl) row23 rfl (by intro X h; cases h; simp) rfl ?_; clear hE a; intro a hE
  refine s_loadN hE rfl (hM.get 1 rfl) row52 rfl (by intro X h; cases h; simp) rfl ?_; clear hE a; intro a hE
  refine q_nil (q_nx ?_)
  refine o_or rfl ?_ ?_
  · refine s_call hE rfl Tryd.call35 (bnodetext_c z s _ (by first | omega | assumption | (simp; done) | (simp; omega) | decide)) rfl ?_
    rintro e w5 ⟨v10, rfl, hN⟩
    refine ⟨_, rfl, hN.sta0 _, ?_⟩; clear hE a; intro a hE
    replace hM : Mem _ _ w5 [_, _, _, _, _] := hM.call0 hN ⟨rfl, trivial⟩; clear hN
    refine q_nil (q_nx ?_)
    refine o_cut (fun _ => True) ?_
    refine o_re ?_
    refine o_fl rfl ?_
    refine q_nil (q_nx ?_)
    refine o_fl rfl ?_
    refine q_nil (q_nx ?_)
    refine o_or rfl ?_ ?_
    · obtain ⟨cq1, hq1⟩ := own_rd (hM.get 0 rfl)
      refine s_call hE rfl Tryd.call34 (tof_c k _ (numT 78 z s) _ _ (hM.get 4 rfl) hl_k hq1 (by have hl_0 : k.length = 32 := hl_k; have hl_1 : (numT 78 z s).length = 82 := ((numT_len ..).trans (by have hl_ : s.length = 64 := hl_s; simp [*])); first | omega | assumption | (simp; done) | (simp; omega) | decide)) rfl ?_
      rintro e w6 ⟨rfl, hN⟩
      refine ⟨_, rfl, hN.sta0 _, ?_⟩; clear hE a; intro a hE
      replace hM : Mem _ _ w6 [_, _, _, _, _] := hM.call0 hN trivial; clear hN
      refine q_nil (q_nx ?_)
      refine o_re ?_
      refine o_fl rfl ?_
      refine q_nil (q_nx ?_)
      refine o_fl rfl ?_
      refine q_nil (q_nx ?_)
      refine o_weak (fun b => b = b6) (fun _ _ => trivial) ?_
      refine o_or rfl ?_ ?_
      · replace hM : Mem _ _ w6 [_, _, _, _, _] := hM.pick [1, 0, 2, 3, 4] rfl
        refine s_storeSeg 0 hE rfl rfl hM rfl sz34 ((bv_length _).trans (by first | (simp; done) | (simp [*]; done) | (simp; omega))) (bv_one _) rfl ((bv_length _).trans (by first | (simp; done) | (simp [*]; done) | (simp; omega))) rfl (by intro X h; cases h; rfl) ?_; intro w7 hM'; clear hM; have hM := hM'; clear hM'
        simp only [List.set_cons_zero, List.set_cons_succ] at hM
        refine q_nil (q_nx ?_)
        refine o_cut (fun _ => True) ?_
        refine o_re ?_
        refine o_weak (fun _ => False) (fun _ _ => trivial) ?_
        refine o_leaf rfl rfl ?_
        refine q_nil (q_ph (q_nil ?_))
        replace hE : Env a 12 [(6, _)] := hE.sel [6] rfl
        refine hK2 _ _ ?_
        refine wp_ret ?_
        refine f_ret1 hE rfl (res_cellN rfl (hM.get 0 rfl) row34 rfl) ?_
        exact ⟨(by first | rfl | (simp; done)), hM.pick [] rfl⟩
      trivial
    trivial
  trivial
end Go.Proofs.YtacebdngbalkmaaDoor
