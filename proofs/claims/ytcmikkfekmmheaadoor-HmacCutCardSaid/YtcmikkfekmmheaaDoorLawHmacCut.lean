/- HmacCut of casematelaw04 returns true for whatever key, bytes and four numbers; they read behind the call as before. No condition. -/
import Derived.Test.YtcmikkfekmmheaaDoorLh
import Derived.Test.YtcmikkfekmmheaaDoorTie
import Derived.Test.YtcmikkfekmmheaaDoorCards
namespace Go.Proofs.YtcmikkfekmmheaaDoor
open Go Go.Kx
open Go.ChangeShapes Go.WideShapes Go.ChangeAt Go.RowKit
theorem arr32 : arrT Tryd.prog 32 = some (4, 1) := by kernel_rfl
theorem one31 : OneT Tryd.prog 31 := OneT.of Tryd.underlying31 rfl (by kernel_rfl)
theorem eqa23 : ∀ {a b : List UInt8}, a.length = 32 → b.length = 32 → Bin Tryd.prog .eql 23 (.agg (bv a).toArray) (.agg (bv b).toArray) (.bool (decide (a = b))) ∧ Bin Tryd.prog .neq 23 (.agg (bv a).toArray) (.agg (bv b).toArray) (.bool (!decide (a = b))) := fun ha hb => bins_arr8 Tryd.underlying23 (by kernel_rfl) Tryd.underlying5 (by kernel_rfl) (by kernel_rfl) ha hb
theorem hmacCut_c (v0 v1 : Value) (b0 b1 : List UInt8) (c0 c1 n0 n1 n2 n3 : Nat) (w : World) (hG : (glb 0).holds w) (hr0 : (rd v0 1 b0.length c0 (bv b0)).holds w) (hr1 : (rd v1 1 b1.length c1 (bv b1)).holds w) (hn : n0 ≤ 65535 ∧ n1 ≤ 65535 ∧ n2 ≤ 65535 ∧ n3 ≤ 65535) : Calls Tryd.prog 5 #[v0, v1, .agg #[.int .u16 (n0 : Int), .int .u16 (n1 : Int), .int .u16 (n2 : Int), .int .u16 (n3 : Int)]] w fun e w' => e = .returned (.bool true) ∧ Mem w [] w' [] := by
  have hM : Mem w [] w [rd v0 1 b0.length c0 (bv b0), rd v1 1 b1.length c1 (bv b1), glb 0] := Mem.startR w (fun g hg => by
    simp only [List.mem_cons, List.not_mem_nil, or_false] at hg
    rcases hg with rfl | rfl | rfl
    · exact ⟨hr0, rfl⟩
    · exact ⟨hr1, rfl⟩
    · exact ⟨hG, rfl⟩)
  refine f_enter 102 Tryd.func5 rfl rfl rfl ?_
  intro a hE
  replace hE : Env a 102 [(0, _), (1, _), (2, _)] := hE
  refine wp_seq_k (fun K1 hK1 => ?_)
  refine wp_plain [false, true] rfl rfl ?_
  refine s_box (ss := [[.int .u16 (n0 : Int)], [.int .u16 (n1 : Int)], [.int .u16 (n2 : Int)], [.int .u16 (n3 : Int)]]) [1, 1, 1, 1] hE hM rfl rfl rfl rfl ?_; clear hE a; intro a b5 w1 hE hM'
  clear hM; have hM := hM'; clear hM'
  refine s_assign hE rfl rfl ?_; clear hE a; intro a hE
  refine q_nil ?_
  replace hE : Env a 102 [(0, _), (1, _), (5, _), (6, _)] := hE.sel [0, 1, 5, 6] rfl
  refine hK1 _ _ ?_
  refine wp_seq_k (fun K2 hK2 => ?_)
  refine wp_plain [true, false, true, false, true, true] rfl rfl ?_
  refine s_move hE rfl rfl ?_; clear hE a; intro a hE
  refine s_call hE rfl Tryd.call18 (cut_c b0 v0 c0 _ (hM.get 1 rfl)) rfl ?_
  rintro e w2 ⟨vK, cK, rfl, hvb, hrB, hN⟩
  refine ⟨_, rfl, trivial, ?_⟩; clear hE a; intro a hE
  replace hM : Mem _ _ w2 [_, _, _, _] := hM.call0 hN trivial; clear hN
  replace hM := hM.addPart 1 rfl hrB hvb; clear hrB hvb
  have hlK : (b0.take 1000).length ≤ 1000 := by simp; omega
  generalize b0.take 1000 = BK at hM hlK
  refine s_move hE rfl rfl ?_; clear hE a; intro a hE
  refine s_call hE rfl Tryd.call18 (cut_c b1 v1 c1 _ (hM.get 3 rfl)) rfl ?_
  rintro e w3 ⟨vM, cM, rfl, hvb, hrB, hN⟩
  refine ⟨_, rfl, trivial, ?_⟩; clear hE a; intro a hE
  replace hM : Mem _ _ w3 [_, _, _, _, _] := hM.call0 hN trivial; clear hN
  replace hM := hM.addPart 3 rfl hrB hvb; clear hrB hvb
  have hlM : (b1.take 1000).length ≤ 1000 := by simp; omega
  generalize b1.take 1000 = BM at hM hlM
  have hlM2 := rd_len (hM.get 0 rfl)
  have hI : (n0 % (BM.length + 1)) ≤ BM.length := by have := Nat.mod_lt n0 (show 0 < BM.length + 1 by omega); omega
  have hJ : ((n0 % (BM.length + 1)) + n1 % (BM.length - (n0 % (BM.length + 1)) + 1)) ≤ BM.length := by have := Nat.mod_lt n1 (show 0 < BM.length - (n0 % (BM.length + 1)) + 1 by omega); omega
  have hN : (n2 % 8161) ≤ 8160 := by omega
  have hMN : (n3 % ((n2 % 8161) + 1)) ≤ (n2 % 8161) := by have := Nat.mod_lt n3 (show 0 < (n2 % 8161) + 1 by omega); omega
  refine s_assign hE rfl rfl ?_; clear hE a; intro a hE
  refine s_assign hE rfl rfl ?_; clear hE a; intro a hE
  refine q_nil ?_
  replace hE : Env a 102 [(0, _), (1, _), (5, _), (6, _)] := hE.sel [0, 1, 5, 6] rfl
  refine hK2 _ _ ?_
  refine wp_seq_k (fun K3 hK3 => ?_)
  refine wp_plain [true, true, true, true, true, true, true, true] rfl rfl ?_
  refine s_indexArr (j := 0) hE rfl rfl arr32 (by first | rfl | omega) (by first | omega | decide) rfl ?_; clear hE a; intro a hE
  refine s_load1 hE rfl (hM.get 2 rfl) rfl one31 (by intro X h; cases h) rfl ?_; clear hE a; intro a hE
  refine s_conv hE rfl (cnv_int Tryd.underlying31 Tryd.underlying3 (wrap_i64 (by omega) (by omega))) rfl ?_; clear hE a; intro a hE
  refine s_move hE rfl rfl ?_; clear hE a; intro a hE
  refine s_len hE rfl Tryd.underlying26 (rd_slice (hM.get 0 rfl)) rfl ?_; clear hE a; intro a hE
  refine s_bin hE rfl rfl (show Bin _ _ _ _ _ (.int .i64 ((BM.length + 1 : Nat) : Int)) from bin_add (by rw [wrap_i64 (by omega) (by omega)]; omega)) rfl ?_; clear hE a; intro a hE
  refine s_bin hE rfl rfl (bin_rem_nat (by omega)) rfl ?_; clear hE a; intro a hE
  refine s_assign hE rfl rfl ?_; clear hE a; intro a hE
  refine q_nil ?_
  replace hE : Env a 102 [(0, _), (1, _), (5, _), (6, _), (7, _)] := hE.sel [0, 1, 5, 6, 7] rfl
  refine hK3 _ _ ?_
  refine wp_seq_k (fun K4 hK4 => ?_)
  refine wp_plain [true, true, true, true, true, true, true, true, true, true, true, true] rfl rfl ?_
  refine s_move hE rfl rfl ?_; clear hE a; intro a hE
  refine s_indexArr (j := 1) hE rfl rfl arr32 (by first | rfl | omega) (by first | omega | decide) rfl ?_; clear hE a; intro a hE
  refine s_load1 hE rfl (hM.get 2 rfl) rfl one31 (by intro X h; cases h) rfl ?_; clear hE a; intro a hE
  refine s_conv hE rfl (cnv_int Tryd.underlying31 Tryd.underlying3 (wrap_i64 (by omega) (by omega))) rfl ?_; clear hE a; intro a hE
  refine s_move hE rfl rfl ?_; clear hE a; intro a hE
  refine s_len hE rfl Tryd.underlying26 (rd_slice (hM.get 0 rfl)) rfl ?_; clear hE a; intro a hE
  refine s_move hE rfl rfl ?_; clear hE a; intro a hE
  refine s_bin hE rfl rfl (show Bin _ _ _ _ _ (.int .i64 ((BM.length - (n0 % (BM.length + 1)) : Nat) : Int)) from bin_sub (by rw [wrap_i64 (by omega) (by omega)]; omega)) rfl ?_; clear hE a; intro a hE
  refine s_bin hE rfl rfl (show Bin _ _ _ _ _ (.int .i64 ((BM.length - (n0 % (BM.length + 1)) + 1 : Nat) : Int)) from bin_add (by rw [wrap_i64 (by omega) (by omega)]; omega)) rfl ?_; clear hE a; intro a hE
  refine s_bin hE rfl rfl (bin_rem_nat (by omega)) rfl ?_; clear hE a; intro a hE
  refine s_bin hE rfl rfl (show Bin _ _ _ _ _ (.int .i64 ((((n0 % (BM.length + 1)) + n1 % (BM.length - (n0 % (BM.length + 1)) + 1)) : Nat) : Int)) from bin_add (by rw [wrap_i64 (by omega) (by omega)]; omega)) rfl ?_; clear hE a; intro a hE
  refine s_assign hE rfl rfl ?_; clear hE a; intro a hE
  refine q_nil ?_
  replace hE : Env a 102 [(0, _), (1, _), (5, _), (6, _), (7, _), (8, _)] := hE.sel [0, 1, 5, 6, 7, 8] rfl
  refine hK4 _ _ ?_
  refine wp_seq_k (fun K5 hK5 => ?_)
  refine wp_seq_k (fun K6 hK6 => ?_)
  refine wp_drawnM hM (by kernel_rfl) (fun _ => False) [(0, true), (1, true), (2, true), (3, true), (4, true), (5, true), (6, true), (7, true), (8, true), (9, true), (10, true), (13, true), (14, true), (11, false), (12, false), (15, false), (16, true)] [(11, [(12, 11), (15, 12), (16, 12)]), (12, [(15, 12), (16, 12)]), (15, [(16, 15)])] (by kernel_rfl) rfl ?_
  intro w4 hM' hww4; clear hM; have hM := hM'; clear hM'
  refine s_move hE rfl rfl ?_; clear hE a; intro a hE
  refine s_move hE rfl rfl ?_; clear hE a; intro a hE
  refine s_move hE rfl rfl ?_; clear hE a; intro a hE
  refine s_slice (l := 0) (h := (n0 % (BM.length + 1))) (mx' := cM) hE rfl (hM.get 0 rfl) slt26 rfl ⟨_, rfl⟩ rfl (by simp) (by omega) (by omega) (by omega) (by omega) rfl ?_; clear hE a; intro a v40 hE hr40 hvb40
  replace hr40 := rd_take (by omega) hr40
  replace hM := hM.addPart 0 rfl hr40 hvb40; clear hr40
  refine s_move hE rfl rfl ?_; clear hE a; intro a hE
  refine s_move hE rfl rfl ?_; clear hE a; intro a hE
  refine s_move hE rfl rfl ?_; clear hE a; intro a hE
  refine s_slice (l := (n0 % (BM.length + 1))) (h := ((n0 % (BM.length + 1)) + n1 % (BM.length - (n0 % (BM.length + 1)) + 1))) (mx' := cM) hE rfl (hM.get 1 rfl) slt26 ⟨_, rfl⟩ ⟨_, rfl⟩ rfl (by simp) (by omega) (by omega) (by omega) (by omega) rfl ?_; clear hE a; intro a v44 hE hr44 hvb44
  replace hr44 := rd_mid (by omega) hr44
  replace hM := hM.addPart 1 rfl hr44 hvb44; clear hr44
  refine s_move hE rfl rfl ?_; clear hE a; intro a hE
  refine s_move hE rfl rfl ?_; clear hE a; intro a hE
  refine s_slice (l := ((n0 % (BM.length + 1)) + n1 % (BM.length - (n0 % (BM.length + 1)) + 1))) (h := BM.length) (mx' := cM) hE rfl (hM.get 2 rfl) slt26 ⟨_, rfl⟩ rfl rfl (by simp) (by omega) (by omega) (by omega) (by omega) rfl ?_; clear hE a; intro a v47 hE hr47 hvb47
  replace hr47 := rd_drop rfl (by omega) hr47
  replace hM := hM.addPart 2 rfl hr47 hvb47; clear hr47
  refine s_move hE rfl rfl ?_; clear hE a; intro a hE
  refine s_move hE rfl rfl ?_; clear hE a; intro a hE
  have h1 := rd_one (hM.get 2 rfl)
  have h2 := rd_one (hM.get 1 rfl)
  have h4 := rd_one (hM.get 0 rfl)
  refine s_buildSlice (xs := [.tmp 40, .tmp 44, .const (.slice none 0 0), .tmp 47]) ([v40, v44, .slice none 0 0, v47]) hE hM sl40 rfl rfl rfl (by intro v hv; simp only [List.mem_cons, List.not_mem_nil, or_false] at hv; rcases hv with rfl | rfl | rfl | rfl; rw [h1.1]; rfl; rw [h2.1]; rfl; rfl; rw [h4.1]; rfl) (by simp [h1.1, h2.1, h4.1]; rfl) rfl rfl rfl ?_; clear hE a; intro a v48 w5 hE hM'
  clear hM; have hM := hM'; clear hM'
  obtain ⟨cl, hl⟩ := own_rd (hM.get 0 rfl)
  refine s_call hE rfl Tryd.call21 ((by have h := parts_c vK _ BK [BM.take (n0 % (BM.length + 1)), (BM.drop (n0 % (BM.length + 1))).take (((n0 % (BM.length + 1)) + n1 % (BM.length - (n0 % (BM.length + 1)) + 1)) - (n0 % (BM.length + 1))), [], BM.drop ((n0 % (BM.length + 1)) + n1 % (BM.length - (n0 % (BM.length + 1)) + 1))] _ _ cK _ _ (hM.get 9 rfl) (hM.get 5 rfl) hl (rdv_cons (hM.get 3 rfl) (rdv_cons (hM.get 2 rfl) (rdv_cons (rd_nil _) (rdv_cons (hM.get 1 rfl) (rdv_nil _))))) (by omega) (by rw [cut4 (by omega)]; omega) (by simp); rw [cut4 (by omega)] at h; exact h)) rfl ?_
  rintro e w6 ⟨rfl, hN⟩
  refine ⟨_, rfl, hN.sta0 _, ?_⟩; clear hE a; intro a hE
  replace hM : Mem _ _ w6 [_, _, _, _, _, _, _, _, _, _] := hM.call0 hN trivial; clear hN
  refine s_call hE rfl Tryd.call19 (of_c vK vM BK BM cK cM _ (hM.get 9 rfl) (hM.get 5 rfl) (hM.get 4 rfl) (by omega) (by omega)) rfl ?_
  rintro e w7 ⟨rfl, hN⟩
  refine ⟨_, rfl, hN.sta0 _, ?_⟩; clear hE a; intro a hE
  replace hM : Mem _ _ w7 [_, _, _, _, _, _, _, _, _, _] := hM.call0 hN trivial; clear hN
  refine s_bin hE rfl rfl (eqa23 (by first | simp | assumption) (by first | simp | assumption)).2 rfl ?_; clear hE a; intro a hE
  refine q_nil ?_
  replace hE : Env a 102 [(0, _), (1, _), (5, _), (6, _), (7, _), (53, _)] := hE.sel [0, 1, 5, 6, 7, 53] rfl
  refine hK6 _ _ ?_
  replace hE := hE.cast 53 rfl (show _ = Value.bool false from (congrArg Value.bool (by simp)))
  refine wp_cond_false (hE.eval rfl) ?_
  refine wp_skip ?_
  refine hK5 _ _ ?_
  refine wp_seq_k (fun K7 hK7 => ?_)
  refine wp_plain [true, true, true, true, true] rfl rfl ?_
  refine s_indexArr (j := 2) hE rfl rfl arr32 (by first | rfl | omega) (by first | omega | decide) rfl ?_; clear hE a; intro a hE
  refine s_load1 hE rfl (hM.get 6 rfl) rfl one31 (by intro X h; cases h) rfl ?_; clear hE a; intro a hE
  refine s_conv hE rfl (cnv_int Tryd.underlying31 Tryd.underlying3 (wrap_i64 (by omega) (by omega))) rfl ?_; clear hE a; intro a hE
  refine s_bin hE rfl rfl (bin_rem_nat (s := 8161) (by decide)) rfl ?_; clear hE a; intro a hE
  refine s_assign hE rfl rfl ?_; clear hE a; intro a hE
  refine q_nil ?_
  replace hE : Env a 102 [(0, _), (1, _), (5, _), (6, _), (7, _), (9, _), (53, _)] := hE.sel [0, 1, 5, 6, 7, 9, 53] rfl
  refine hK7 _ _ ?_
  refine wp_seq_k (fun K8 hK8 => ?_)
  refine wp_plain [true, true, true, true, true, true, true] rfl rfl ?_
  refine s_indexArr (j := 3) hE rfl rfl arr32 (by first | rfl | omega) (by first | omega | decide) rfl ?_; clear hE a; intro a hE
  refine s_load1 hE rfl (hM.get 6 rfl) rfl one31 (by intro X h; cases h) rfl ?_; clear hE a; intro a hE
  refine s_conv hE rfl (cnv_int Tryd.underlying31 Tryd.underlying3 (wrap_i64 (by omega) (by omega))) rfl ?_; clear hE a; intro a hE
  refine s_move hE rfl rfl ?_; clear hE a; intro a hE
  refine s_bin hE rfl rfl (show Bin _ _ _ _ _ (.int .i64 (((n2 % 8161) + 1 : Nat) : Int)) from bin_add (by rw [wrap_i64 (by omega) (by omega)]; omega)) rfl ?_; clear hE a; intro a hE
  refine s_bin hE rfl rfl (bin_rem_nat (by omega)) rfl ?_; clear hE a; intro a hE
  refine s_assign hE rfl rfl ?_; clear hE a; intro a hE
  refine q_nil ?_
  replace hE : Env a 102 [(0, _), (1, _), (5, _), (6, _), (7, _), (9, _), (10, _), (53, _)] := hE.sel [0, 1, 5, 6, 7, 9, 10, 53] rfl
  refine hK8 _ _ ?_
  refine wp_seq_k (fun K9 hK9 => ?_)
  refine wp_plain [true, true, true, false, true, true, true, true, true] rfl rfl ?_
  refine s_move hE rfl rfl ?_; clear hE a; intro a hE
  refine s_move hE rfl rfl ?_; clear hE a; intro a hE
  refine s_move hE rfl rfl ?_; clear hE a; intro a hE
  refine s_call hE rfl Tryd.call22 (stretch_c vK vM BK BM cK cM (n2 % 8161) _ (hM.get 9 rfl) (hM.get 5 rfl) (hM.get 4 rfl) (by omega) (by omega) (by omega)) rfl ?_
  rintro e w8 ⟨vx, rfl, hN⟩
  refine ⟨_, rfl, trivial, ?_⟩; clear hE a; intro a hE
  replace hM : Mem _ _ w8 [_, _, _, _, _, _, _, _, _, _, _] := hM.call0 hN ⟨rfl, trivial⟩; clear hN
  replace hM := hM.ownEq (m' := (strW BK BM (n2 % 8161)).length) (cs' := bv (strW BK BM (n2 % 8161))) (by rw [strW_length]) rfl
  refine s_move hE rfl rfl ?_; clear hE a; intro a hE
  refine s_extract hE rfl rfl rfl ?_; clear hE a; intro a hE
  refine s_extract hE rfl rfl rfl ?_; clear hE a; intro a hE
  refine s_assign hE rfl rfl ?_; clear hE a; intro a hE
  refine s_assign hE rfl rfl ?_; clear hE a; intro a hE
  refine q_nil ?_
  replace hE : Env a 102 [(0, _), (1, _), (5, _), (6, _), (7, _), (9, _), (10, _), (11, _), (12, _), (53, _)] := hE.sel [0, 1, 5, 6, 7, 9, 10, 11, 12, 53] rfl
  refine hK9 _ _ ?_
  refine wp_seq_k (fun K10 hK10 => ?_)
  refine wp_plain [true, true, true, false, true, true, true, true, true] rfl rfl ?_
  refine s_move hE rfl rfl ?_; clear hE a; intro a hE
  refine s_move hE rfl rfl ?_; clear hE a; intro a hE
  refine s_move hE rfl rfl ?_; clear hE a; intro a hE
  refine s_call hE rfl Tryd.call22 (stretch_c vK vM BK BM cK cM (n3 % ((n2 % 8161) + 1)) _ (hM.get 10 rfl) (hM.get 6 rfl) (hM.get 5 rfl) (by omega) (by omega) (by omega)) rfl ?_
  rintro e w9 ⟨vy, rfl, hN⟩
  refine ⟨_, rfl, trivial, ?_⟩; clear hE a; intro a hE
  replace hM : Mem _ _ w9 [_, _, _, _, _, _, _, _, _, _, _, _] := hM.call0 hN ⟨rfl, trivial⟩; clear hN
  replace hM := hM.ownEq (m' := (strW BK BM (n3 % ((n2 % 8161) + 1))).length) (cs' := bv (strW BK BM (n3 % ((n2 % 8161) + 1)))) (by rw [strW_length]) rfl
  refine s_move hE rfl rfl ?_; clear hE a; intro a hE
  refine s_extract hE rfl rfl rfl ?_; clear hE a; intro a hE
  refine s_extract hE rfl rfl rfl ?_; clear hE a; intro a hE
  refine s_assign hE rfl rfl ?_; clear hE a; intro a hE
  refine s_assign hE rfl rfl ?_; clear hE a; intro a hE
  refine q_nil ?_
  replace hE : Env a 102 [(0, _), (1, _), (5, _), (6, _), (7, _), (9, _), (10, _), (11, _), (12, _), (13, _), (14, _), (53, _)] := hE.sel [0, 1, 5, 6, 7, 9, 10, 11, 12, 13, 14, 53] rfl
  refine hK10 _ _ ?_
  refine wp_seq_k (fun K11 hK11 => ?_)
  refine wp_drawnM hM (by kernel_rfl) (fun _ => False) [(0, true), (1, true), (2, true), (3, true), (4, true), (5, true), (6, true), (7, true), (8, true), (9, true), (10, true), (11, true), (12, true), (13, true), (14, true), (15, true), (16, true), (17, true), (18, true), (19, true), (20, true), (21, true), (22, false), (23, true), (24, true)] [(22, [(23, 22), (24, 22)])] (by kernel_rfl) rfl ?_
  intro w10 hM' hww10; clear hM; have hM := hM'; clear hM'
  refine s_move hE rfl rfl ?_; clear hE a; intro a hE
  refine s_bin hE rfl rfl bin_eql rfl ?_; clear hE a; intro a hE
  refine s_move hE rfl rfl ?_; clear hE a; intro a hE
  replace hE := hE.cast 80 rfl (show _ = Value.bool true from (congrArg Value.bool (by first | rfl | decide)))
  refine g_yes hE rfl rfl ?_
  refine s_move hE rfl rfl ?_; clear hE a; intro a hE
  refine g_yes hE rfl rfl ?_
  refine s_bin hE rfl rfl bin_eql rfl ?_; clear hE a; intro a hE
  refine s_pickt hE rfl rfl rfl ?_; clear hE a; intro a hE
  refine s_move hE rfl rfl ?_; clear hE a; intro a hE
  replace hE := hE.cast 84 rfl (show _ = Value.bool true from (congrArg Value.bool (by first | rfl | decide)))
  refine g_yes hE rfl rfl ?_
  refine s_move hE rfl rfl ?_; clear hE a; intro a hE
  refine g_yes hE rfl rfl ?_
  refine s_len hE rfl Tryd.underlying26 (own_slice (hM.get 1 rfl)) rfl ?_; clear hE a; intro a hE
  refine g_yes hE rfl rfl ?_
  refine s_move hE rfl rfl ?_; clear hE a; intro a hE
  refine g_yes hE rfl rfl ?_
  refine s_bin hE rfl rfl bin_eql rfl ?_; clear hE a; intro a hE
  refine s_pickt hE rfl rfl rfl ?_; clear hE a; intro a hE
  refine s_move hE rfl rfl ?_; clear hE a; intro a hE
  replace hE := hE.cast 90 rfl (show _ = Value.bool true from (congrArg Value.bool (decide_eq_true (by rw [strW_length]))))
  refine g_yes hE rfl rfl ?_
  refine s_move hE rfl rfl ?_; clear hE a; intro a hE
  refine g_yes hE rfl rfl ?_
  refine s_move hE rfl rfl ?_; clear hE a; intro a hE
  refine g_yes hE rfl rfl ?_
  refine s_sliceTo (l := (n3 % ((n2 % 8161) + 1))) hE rfl (hM.get 1 rfl) slt26 ⟨_, rfl⟩ (by rw [strW_length]; omega) rfl ?_; clear hE a; intro a hE
  refine g_yes hE rfl rfl ?_
  obtain ⟨cs, hs⟩ := own_subR (hM.get 1 rfl) (l := (n3 % ((n2 % 8161) + 1))) (by rw [strW_length]; omega) rfl
  refine s_toStr hE rfl Tryd.underlying26 Tryd.underlying5 Tryd.underlying9 hs (by intro X h; cases h; simp) rfl ?_; clear hE a; intro a hE
  refine g_yes hE rfl rfl ?_
  refine s_move hE rfl rfl ?_; clear hE a; intro a hE
  refine g_yes hE rfl rfl ?_
  obtain ⟨cs2, hs2⟩ := own_rd (hM.get 0 rfl)
  refine s_toStr hE rfl Tryd.underlying26 Tryd.underlying5 Tryd.underlying9 hs2 (by intro X h; cases h; simp) rfl ?_; clear hE a; intro a hE
  refine g_yes hE rfl rfl ?_
  refine s_bin hE rfl rfl bins_str.1 rfl ?_; clear hE a; intro a hE
  refine s_pickt hE rfl rfl rfl ?_; clear hE a; intro a hE
  refine s_move hE rfl rfl ?_; clear hE a; intro a hE
  replace hE := hE.cast 99 rfl (show _ = Value.bool true from (congrArg Value.bool (decide_eq_true (by rw [strW_take hMN]))))
  refine g_yes hE rfl rfl ?_
  refine s_call hE rfl Tryd.call17 (works_c _ (hM.get 11 rfl)) rfl ?_
  rintro e w11 ⟨rfl, hN⟩
  refine ⟨_, rfl, hN.sta0 _, ?_⟩; clear hE a; intro a hE
  replace hM : Mem _ _ w11 [_, _, _, _, _, _, _, _, _, _, _, _] := hM.call0 hN trivial; clear hN
  refine s_pickt hE rfl rfl rfl ?_; clear hE a; intro a hE
  refine s_assign hE rfl rfl ?_; clear hE a; intro a hE
  refine q_nil ?_
  replace hE : Env a 102 [(0, _), (1, _), (5, _), (6, _), (7, _), (9, _), (10, _), (53, _)] := hE.sel [0, 1, 5, 6, 7, 9, 10, 53] rfl
  refine hK11 _ _ ?_
  refine wp_ret ?_
  refine f_ret1 hE rfl rfl ?_
  exact ⟨rfl, hM.nil⟩
set_option maxRecDepth 100000 in
theorem hmacCut_lifted (os : Os) (started : os.Started) (H : Type) (enc : TypeId × Value → H) :
    ReturnsInHanded {} Tryd.checked os 5 .any (fun w args => (Rows.hmacCutSpec.pre enc Tryd.prog Tryd.f5 [] false w args ∧ laidMetH Tryd.prog Rows.hmacCutRow.laid w) ∧ sizedMet enc Tryd.prog Tryd.f5 (OpenSpec.ofChange Rows.hmacCutSpec) false w args) (Rows.hmacCutSpec.post enc Tryd.prog Tryd.f5 false true false false) := by
  refine law_liftedL (C := Tryd.checked) (fn := Tryd.f5) (l := Rows.hmacCutRow.laid) (by kernel_rfl) started (by kernel_rfl) Tryd.func5 rfl (fun ds hl => ?_) rfl Tryd.underlying4 (by kernel_rfl) (of_decide_eq_true (by kernel_rfl)) (by kernel_rfl)
    (ChangeSpec.witness_shaped (enc := enc) (C := Tryd.checked) (os := os) (X := fun w _ => laidMetH Tryd.prog Rows.hmacCutRow.laid w) false (World.laidAll Tryd.prog os Rows.hmacCutRow.laid) #[.slice none 0 0, .slice none 0 0, .agg #[.int .u16 0, .int .u16 0, .int .u16 0, .int .u16 0]] 8 (World.laidAll_os _ _ _) (World.shaped_of_ZipB (by kernel_rfl) (by kernel_rfl)) (by kernel_rfl) (by kernel_rfl) (by kernel_rfl) (by rw [MakeChecks.laidMetH_plain _ _ _ (by kernel_rfl)]; exact laidMet_laidAll _ (by kernel_rfl) (by kernel_rfl))) ?_
  · rw [Tryd.params5] at hl
    match ds, hl with
    | [_, _, _], _ => rfl
  · intro W base args ds ps hval hA hw hL
    have hG := glb_of_laid (P := Tryd.prog) (g := 0) (t := 91) (e := 48) (by kernel_rfl) (by kernel_rfl) Tryd.underlying91 Tryd.underlying48 (by kernel_rfl) (by kernel_rfl) (by kernel_rfl) (show laidMet Tryd.prog (_ :: _) W from hL)
    rw [Tryd.params5] at hA hval hw
    obtain ⟨v0, vs0, d0, ds0, p0, q0, hargs, rfl, rfl, h0, r0⟩ := trodAll_cons hA
    obtain ⟨v1, vs1, d1, ds1, p1, q1, rfl, rfl, rfl, h1, r1⟩ := trodAll_cons r0
    obtain ⟨v2, vs2, d2, ds2, p2, q2, rfl, rfl, rfl, h2, r2⟩ := trodAll_cons r1
    obtain ⟨rfl, rfl, rfl⟩ := trodAll_nil r2
    obtain rfl : args = #[v0, v1, v2] := by cases args; simp_all
    obtain ⟨bs0, c0, hr0, hb0⟩ := arg_bytes Tryd.underlying26 Tryd.underlying5 (by kernel_rfl) (by kernel_rfl) (hval 0 26 v0 rfl rfl) h0 (fun m hm => hw m (by simp only [DataW.weightsEach, List.mem_append]; exact .inl hm))
    obtain ⟨bs1, c1, hr1, hb1⟩ := arg_bytes Tryd.underlying26 Tryd.underlying5 (by kernel_rfl) (by kernel_rfl) (hval 1 26 v1 rfl rfl) h1 (fun m hm => hw m (by simp only [DataW.weightsEach, List.mem_append]; exact .inr (.inl hm)))
    obtain ⟨ns2, rfl, hn2, hk2⟩ := arg_arrN Tryd.underlying32 Tryd.underlying31 (by kernel_rfl) (by kernel_rfl) rfl (hval 2 32 v2 rfl rfl) h2 (fun m hm => hw m (by simp only [DataW.weightsEach, List.mem_append]; exact .inr (.inr (.inl hm))))
    obtain ⟨n0, n1, n2, n3, rfl⟩ := len4 hn2
    have k0 := hk2 n0 (by simp)
    have k1 := hk2 n1 (by simp)
    have k2 := hk2 n2 (by simp)
    have k3 := hk2 n3 (by simp)
    have ek : IntKind.u16.max = 65535 := by decide
    rw [ek] at k0 k1 k2 k3
    exact hmacCut_c v0 v1 bs0 bs1 c0 c1 n0 n1 n2 n3 W hG hr0 hr1 ⟨by omega, by omega, by omega, by omega⟩

/-- The row's statement. -/
theorem hmacCut_row : Rows.HmacCutSaid :=
  OpenClaim.holds_of_wide 5 Tryd.f5 rfl rfl rfl rfl rfl rfl rfl ⟨rfl, rfl, rfl, rfl, rfl⟩ rfl rfl rfl rfl rfl (by kernel_rfl) Tryd.func5 (by kernel_rfl)
    (of_decide_eq_true (by kernel_rfl)) (by unfold Func.isWrapper; first | (rw [if_pos (by decide +kernel)]; kernel_rfl) | (rw [if_neg (by decide +kernel)]; exact ⟨rfl, rfl⟩))
    (fun os started H enc _ => hmacCut_lifted os started H enc)

/-- The statement: the row, its listed variable tied to the program's text. -/
theorem hmacCut_holds : Rows.HmacCutCardSaid :=
  Claim7.holds_tied_plain_at .later [] [.data] true (true, "84ae260bd57be45edc78bdc8f25baf9a88e7d5216b5328ce6ba213109669f402") true
    hmacCut_row (fun _ h => by cases h) (by kernel_rfl) (fun _ h => by cases h) hmacCut_row_tie rfl ⟨rfl, rfl⟩ (by kernel_rfl) rfl
    (fun f fn hf hfn => by
      obtain rfl : f = 5 := Option.some.inj ((show Tryd.prog.funcNamed "casemate/casematelaw04.HmacCut" = some 5 by kernel_rfl).symm.trans hf) |>.symm
      obtain rfl : fn = Tryd.f5 := (Option.some.inj (Tryd.func5.symm.trans hfn)).symm
      exact ⟨by kernel_rfl, fun j t ht => by
        rw [Tryd.params5] at ht
        have h : t ∈ [26, 26, 32] := by
          rcases j with _ | _ | _ | j
          · simp at ht; simp [ht]
          · simp at ht; simp [ht]
          · simp at ht; simp [ht]
          · simp at ht
        simp only [List.mem_cons, List.not_mem_nil, or_false] at h
        rcases h with rfl | rfl | rfl
        · exact (show Tryd.prog.wantsStandIn 26 = false by kernel_rfl)
        · exact (show Tryd.prog.wantsStandIn 26 = false by kernel_rfl)
        · exact (show Tryd.prog.wantsStandIn 32 = false by kernel_rfl)⟩)
    (by kernel_rfl)
#print axioms hmacCut_holds
end Go.Proofs.YtcmikkfekmmheaaDoor
