/- HmacKeys of casematelaw04 returns true for whatever key, bytes and number of bytes 0; they read behind the call as before. No condition. -/
import Derived.Test.YtcmikkfekmmheaaDoorLh
import Derived.Test.YtcmikkfekmmheaaDoorTie
import Derived.Test.YtcmikkfekmmheaaDoorCards
namespace Go.Proofs.YtcmikkfekmmheaaDoor
open Go Go.Kx
open Go.ChangeShapes Go.WideShapes Go.ChangeAt Go.RowKit
theorem eqa23 : ∀ {a b : List UInt8}, a.length = 32 → b.length = 32 → Bin Tryd.prog .eql 23 (.agg (bv a).toArray) (.agg (bv b).toArray) (.bool (decide (a = b))) ∧ Bin Tryd.prog .neq 23 (.agg (bv a).toArray) (.agg (bv b).toArray) (.bool (!decide (a = b))) := fun ha hb => bins_arr8 Tryd.underlying23 (by kernel_rfl) Tryd.underlying5 (by kernel_rfl) (by kernel_rfl) ha hb
theorem hmacKeys_c (v0 v1 : Value) (b0 b1 : List UInt8) (c0 c1 : Nat) (x : UInt8) (w : World) (hG : (glb 0).holds w) (hr0 : (rd v0 1 b0.length c0 (bv b0)).holds w) (hr1 : (rd v1 1 b1.length c1 (bv b1)).holds w) : Calls Tryd.prog 4 #[v0, v1, .int .u8 (x.toNat : Int)] w fun e w' => e = .returned (.bool true) ∧ Mem w [] w' [] := by
  have hM : Mem w [] w [rd v0 1 b0.length c0 (bv b0), rd v1 1 b1.length c1 (bv b1), glb 0] := Mem.startR w (fun g hg => by
    simp only [List.mem_cons, List.not_mem_nil, or_false] at hg
    rcases hg with rfl | rfl | rfl
    · exact ⟨hr0, rfl⟩
    · exact ⟨hr1, rfl⟩
    · exact ⟨hG, rfl⟩)
  have hx := x.toNat_lt
  refine f_enter 56 Tryd.func4 rfl rfl rfl ?_
  intro a hE
  replace hE : Env a 56 [(0, _), (1, _), (2, _)] := hE
  refine wp_seq_k (fun K1 hK1 => ?_)
  refine wp_plain [true] rfl rfl ?_
  refine s_assign hE rfl rfl ?_; clear hE a; intro a hE
  refine q_nil ?_
  refine hK1 _ _ ?_
  refine wp_seq_k (fun K2 hK2 => ?_)
  refine wp_plain [true, false, true, false, true, true] rfl rfl ?_
  refine s_move hE rfl rfl ?_; clear hE a; intro a hE
  refine s_call hE rfl Tryd.call18 (cut_c b0 v0 c0 _ (hM.get 0 rfl)) rfl ?_
  rintro e w1 ⟨vK, cK, rfl, hvb, hrB, hN⟩
  refine ⟨_, rfl, trivial, ?_⟩; clear hE a; intro a hE
  replace hM : Mem _ _ w1 [_, _, _] := hM.call0 hN trivial; clear hN
  replace hM := hM.addPart 0 rfl hrB hvb; clear hrB hvb
  have hlK : (b0.take 1000).length ≤ 1000 := by simp; omega
  generalize b0.take 1000 = BK at hM hlK
  refine s_move hE rfl rfl ?_; clear hE a; intro a hE
  refine s_call hE rfl Tryd.call18 (cut_c b1 v1 c1 _ (hM.get 2 rfl)) rfl ?_
  rintro e w2 ⟨vM, cM, rfl, hvb, hrB, hN⟩
  refine ⟨_, rfl, trivial, ?_⟩; clear hE a; intro a hE
  replace hM : Mem _ _ w2 [_, _, _, _] := hM.call0 hN trivial; clear hN
  replace hM := hM.addPart 2 rfl hrB hvb; clear hrB hvb
  have hlM : (b1.take 1000).length ≤ 1000 := by simp; omega
  generalize b1.take 1000 = BM at hM hlM
  refine s_assign hE rfl rfl ?_; clear hE a; intro a hE
  refine s_assign hE rfl rfl ?_; clear hE a; intro a hE
  refine q_nil ?_
  replace hE : Env a 56 [(0, _), (1, _), (2, _), (6, _)] := hE.sel [0, 1, 2, 6] rfl
  refine hK2 _ _ ?_
  refine wp_seq_k (fun K3 hK3 => ?_)
  refine wp_plain [true, true, false, false, false] rfl rfl ?_
  refine s_move hE rfl rfl ?_; clear hE a; intro a hE
  refine s_move hE rfl rfl ?_; clear hE a; intro a hE
  refine s_call hE rfl Tryd.call19 (of_c vK vM BK BM cK cM _ (hM.get 4 rfl) (hM.get 1 rfl) (hM.get 0 rfl) (by omega) (by omega)) rfl ?_
  rintro e w3 ⟨rfl, hN⟩
  refine ⟨_, rfl, trivial, ?_⟩; clear hE a; intro a hE
  replace hM : Mem _ _ w3 [_, _, _, _, _] := hM.call0 hN trivial; clear hN
  refine s_alloc [32] hE hM zero23 rfl rfl ?_; clear hE a; intro a b7 w4 hE hM'
  clear hM; have hM := hM'; clear hM'
  refine s_storeSeg 0 hE rfl rfl hM rfl sz23 (by simp) (bv_one _) rfl (by simp) rfl (by intro X h; cases h) ?_; intro w5 hM'; clear hM; have hM := hM'; clear hM'
  simp only [List.set_cons_zero, List.set_cons_succ] at hM
  refine q_nil ?_
  replace hE : Env a 56 [(0, _), (1, _), (2, _), (6, _), (7, _)] := hE.sel [0, 1, 2, 6, 7] rfl
  refine hK3 _ _ ?_
  refine wp_seq_k (fun K4 hK4 => ?_)
  refine wp_seq_k (fun K5 hK5 => ?_)
  refine wp_plain [true, true, true] rfl rfl ?_
  refine s_move hE rfl rfl ?_; clear hE a; intro a hE
  refine s_len hE rfl Tryd.underlying26 (rd_slice (hM.get 2 rfl)) rfl ?_; clear hE a; intro a hE
  refine s_bin hE rfl rfl bin_gtr rfl ?_; clear hE a; intro a hE
  refine q_nil ?_
  replace hE : Env a 56 [(0, _), (1, _), (2, _), (6, _), (7, _), (20, _)] := hE.sel [0, 1, 2, 6, 7, 20] rfl
  refine hK5 _ _ ?_
  refine hE.split 20 rfl (fun hb20 hE' => ?_) (fun hb20 hE' => ?_)
  · replace hE := hE'; clear hE'
    replace hb20 := of_decide_eq_true hb20
    replace hb20 : 64 < BK.length := by omega
    refine wp_cond_true (hE.eval rfl) ?_
    refine wp_seq_k (fun K6 hK6 => ?_)
    refine wp_plain [true, false, false, false] rfl rfl ?_
    refine s_move hE rfl rfl ?_; clear hE a; intro a hE
    refine s_call hE rfl Tryd.call20 (sha_c vK BK cK _ (hM.get 5 rfl) (hM.get 2 rfl) (by omega)) rfl ?_
    rintro e w6 ⟨rfl, hN⟩
    refine ⟨_, rfl, trivial, ?_⟩; clear hE a; intro a hE
    replace hM : Mem _ _ w6 [_, _, _, _, _, _] := hM.call0 hN trivial; clear hN
    refine s_alloc [32] hE hM zero23 rfl rfl ?_; clear hE a; intro a b8 w7 hE hM'
    clear hM; have hM := hM'; clear hM'
    refine s_storeSeg 0 hE rfl rfl hM rfl sz23 (by simp) (bv_one _) rfl (by simp) rfl (by intro X h; cases h) ?_; intro w8 hM'; clear hM; have hM := hM'; clear hM'
    simp only [List.set_cons_zero, List.set_cons_succ] at hM
    refine q_nil ?_
    replace hE : Env a 56 [(0, _), (1, _), (2, _), (6, _), (7, _), (8, _), (20, _)] := hE.sel [0, 1, 2, 6, 7, 8, 20] rfl
    refine hK6 _ _ ?_
    refine wp_seq_k (fun K7 hK7 => ?_)
    refine wp_drawnM hM (by kernel_rfl) (fun _ => False) [(0, true), (1, true), (3, true), (2, false), (4, true), (5, true), (6, false), (7, true), (8, true)] [(2, [(4, 2), (5, 2), (6, 5), (7, 5), (8, 2)]), (6, [(7, 6), (8, 6)])] (by kernel_rfl) rfl ?_
    intro w9 hM' hww9; clear hM; have hM := hM'; clear hM'
    refine s_sliceArr (l := 0) (h := 32) (mx' := 32) hE rfl arr23 rfl rfl rfl (by simp) (by omega) (by omega) (by omega) rfl ?_; clear hE a; intro a hE
    replace hE := hE.cast 23 rfl (show _ = Value.slice (some ⟨b8, 0, none⟩) 32 32 from rfl)
    refine s_move hE rfl rfl ?_; clear hE a; intro a hE
    refine s_loadN hE rfl (hM.get 1 rfl) row23 rfl (by intro X h; cases h; simp) rfl ?_; clear hE a; intro a hE
    refine s_call hE rfl Tryd.call19 (of_c _ vM (shaW BK) BM _ cM _ (hM.get 6 rfl) (rd_of_arr (hM.get 0 rfl) (by simp)) (hM.get 2 rfl) (by simp) (by omega)) rfl ?_
    rintro e w10 ⟨rfl, hN⟩
    refine ⟨_, rfl, hN.sta0 _, ?_⟩; clear hE a; intro a hE
    replace hM : Mem _ _ w10 [_, _, _, _, _, _, _] := hM.call0 hN trivial; clear hN
    refine s_bin hE rfl rfl (eqa23 (by first | simp | assumption) (by first | simp | assumption)).1 rfl ?_; clear hE a; intro a hE
    refine s_move hE rfl rfl ?_; clear hE a; intro a hE
    replace hE := hE.cast 28 rfl (show _ = Value.bool true from (congrArg Value.bool (decide_eq_true (hmacW_digest hb20))))
    refine g_yes hE rfl rfl ?_
    refine s_call hE rfl Tryd.call17 (works_c _ (hM.get 6 rfl)) rfl ?_
    rintro e w11 ⟨rfl, hN⟩
    refine ⟨_, rfl, hN.sta0 _, ?_⟩; clear hE a; intro a hE
    replace hM : Mem _ _ w11 [_, _, _, _, _, _, _] := hM.call0 hN trivial; clear hN
    refine s_pickt hE rfl rfl rfl ?_; clear hE a; intro a hE
    refine s_assign hE rfl rfl ?_; clear hE a; intro a hE
    refine q_nil ?_
    replace hE : Env a 56 [(0, _), (1, _), (2, _), (6, _), (7, _), (8, _), (20, _)] := hE.sel [0, 1, 2, 6, 7, 8, 20] rfl
    refine hK7 _ _ ?_
    refine wp_ret ?_
    refine q_then_r ?_
    refine f_ret1 hE rfl rfl ?_
    exact ⟨rfl, hM.nil⟩
  · replace hE := hE'; clear hE'
    replace hb20 := of_decide_eq_false hb20
    replace hb20 : ¬ 64 < BK.length := by omega
    refine wp_cond_false (hE.eval rfl) ?_
    refine wp_skip ?_
    refine hK4 _ _ ?_
    refine wp_seq_k (fun K6 hK6 => ?_)
    refine wp_plain [false, true, false, true] rfl rfl ?_
    refine s_buildSlice (xs := []) (bv []) hE hM sl26 rfl rfl rfl (by intro v hv; cases hv) rfl rfl rfl rfl ?_; clear hE a; intro a v31 w6 hE hM'
    clear hM; have hM := hM'; clear hM'
    refine s_move hE rfl rfl ?_; clear hE a; intro a hE
    have hy := hM.get 3 rfl
    refine s_append hE rfl rfl hM sl26 (Src.rd Tryd.underlying26 hy (bv_one _)) (len47 (by simp; omega)) (by simp; omega) (by intro X h; cases h) rfl ?_; clear hE a hy; intro a v33 w7 hE hM'
    clear hM; have hM := hM'; clear hM'
    refine s_assign hE rfl rfl ?_; clear hE a; intro a hE
    refine q_nil ?_
    replace hE : Env a 56 [(0, _), (1, _), (2, _), (6, _), (7, _), (9, _), (20, _)] := hE.sel [0, 1, 2, 6, 7, 9, 20] rfl
    refine hK6 _ _ ?_
    refine wp_seq_k (fun K7 hK7 => ?_)
    refine wp_seq_k (fun K8 hK8 => ?_)
    refine wp_plain [true] rfl rfl ?_
    refine s_assign hE rfl rfl ?_; clear hE a; intro a hE
    refine q_nil ?_
    refine hK8 _ _ ?_
    refine wp_block ?_
    replace hM : Mem _ _ w7 [_, _, _, _, _, _, _] := hM.pick [0, 1, 2, 6, 3, 4, 5] rfl
    replace hM : Mem _ _ w7 [_, _, _, _] := hM.pick [0, 1, 2, 3] rfl
    refine c_loop (fun (i : Nat) a w' => BK.length + i ≤ 64 ∧ ∃ vl, Env a 56 [(1, vM), (2, .int .u8 (x.toNat : Int)), (7, .pointer (some ⟨b7, 0, none⟩)), (9, vl), (10, .int .i64 (i : Int))] ∧ Mem w [] w' [own vl 1 (BK ++ List.replicate i 0).length (bv (BK ++ List.replicate i 0)), blk b7 [bv (hmacW BK BM)] [32] 23, rd vM 1 BM.length cM (bv BM), glb 0]) (fun i => 64 - BK.length - i) 0 ⟨by omega, _, hE.sel [1, 2, 7, 9, 10] rfl, by simpa [bv] using hM⟩ ?_
    clear hE hM a; rintro i a w8 ⟨hi, vl, hE, hM⟩
    refine wp_seq_k (fun K9 hK9 => ?_)
    refine wp_seq_k (fun K10 hK10 => ?_)
    refine wp_plain [true, true, true, true, true, true, true, true, true] rfl rfl ?_
    refine s_move hE rfl rfl ?_; clear hE a; intro a hE
    refine s_move hE rfl rfl ?_; clear hE a; intro a hE
    refine s_conv hE rfl (cnv_int Tryd.underlying5 Tryd.underlying3 (wrap_i64 (by omega) (by omega))) rfl ?_; clear hE a; intro a hE
    refine s_bin hE rfl rfl bin_lss rfl ?_; clear hE a; intro a hE
    refine s_move hE rfl rfl ?_; clear hE a; intro a hE
    refine hE.split 38 rfl (fun hb38 hE' => ?_) (fun hb38 hE' => ?_)
    · replace hE := hE'; clear hE'
      replace hb38 := of_decide_eq_true hb38
      refine g_yes hE rfl rfl ?_
      refine s_move hE rfl rfl ?_; clear hE a; intro a hE
      refine g_yes hE rfl rfl ?_
      refine s_len hE rfl Tryd.underlying26 (own_slice (hM.get 0 rfl)) rfl ?_; clear hE a; intro a hE
      refine g_yes hE rfl rfl ?_
      refine s_bin hE rfl rfl bin_lss rfl ?_; clear hE a; intro a hE
      refine s_pickt hE rfl rfl rfl ?_; clear hE a; intro a hE
      refine q_nil ?_
      replace hE : Env a 56 [(1, _), (2, _), (7, _), (9, _), (10, _), (42, _)] := hE.sel [1, 2, 7, 9, 10, 42] rfl
      refine hK10 _ _ ?_
      refine hE.split 42 rfl (fun hb42 hE' => ?_) (fun hb42 hE' => ?_)
      · replace hE := hE'; clear hE'
        replace hb42 := of_decide_eq_true hb42
        replace hb42 : BK.length + i < 64 := by simp at hb42; omega
        refine wp_cond_true (hE.eval rfl) ?_
        refine wp_skip ?_
        refine hK9 _ _ ?_
        refine wp_seq_k (fun K11 hK11 => ?_)
        refine wp_block ?_
        refine wp_plain [true, false, false, true] rfl rfl ?_
        refine s_move hE rfl rfl ?_; clear hE a; intro a hE
        refine s_buildSlice (xs := [.const (.int .u8 0)]) (bv [0]) hE hM sl26 rfl rfl rfl (by intro v hv; simp at hv; subst hv; rfl) rfl rfl rfl rfl ?_; clear hE a; intro a v46 w9 hE hM'
        clear hM; have hM := hM'; clear hM'
        replace hM : Mem _ _ w9 [_, _, _, _, _] := hM.pick [1, 0, 2, 3, 4] rfl
        obtain ⟨cy, hy⟩ := own_rd (hM.get 1 rfl)
        refine s_append hE rfl rfl hM sl26 (Src.rd Tryd.underlying26 hy (bv_one _)) (len47 (by simp; omega)) (by simp; omega) (by intro X h; cases h) rfl ?_; clear hE a hy; intro a v47 w10 hE hM'
        clear hM; have hM := hM'; clear hM'
        replace hM : Mem _ _ w10 [_, _, _, _] := hM.pick [0, 2, 3, 4] rfl
        replace hM := hM.ownEq (m' := (BK ++ List.replicate (i + 1) 0).length) (cs' := bv (BK ++ List.replicate (i + 1) 0)) (by simp; omega) (by rw [← bv_append, List.append_assoc, List.replicate_succ'])
        refine s_assign hE rfl rfl ?_; clear hE a; intro a hE
        refine q_nil ?_
        replace hE : Env a 56 [(1, _), (2, _), (7, _), (9, _), (10, _), (42, _)] := hE.sel [1, 2, 7, 9, 10, 42] rfl
        refine q_block_n ?_
        refine hK11 _ _ ?_
        refine wp_plain [true, true, true] rfl rfl ?_
        refine s_move hE rfl rfl ?_; clear hE a; intro a hE
        refine s_bin hE rfl rfl (bin_add (wrap_i64 (by omega) (by omega))) rfl ?_; clear hE a; intro a hE
        refine s_assign hE rfl rfl ?_; clear hE a; intro a hE
        refine q_nil ?_
        replace hE : Env a 56 [(1, _), (2, _), (7, _), (9, _), (10, _), (42, _)] := hE.sel [1, 2, 7, 9, 10, 42] rfl
        replace hE := hE.cast 10 rfl (show _ = Value.int .i64 ((i + 1 : Nat) : Int) from congrArg _ (by omega))
        exact ⟨i + 1, ⟨by omega, _, hE.sel [1, 2, 7, 9, 10] rfl, hM⟩, by omega⟩
      · replace hE := hE'; clear hE'
        replace hb42 := of_decide_eq_false hb42
        refine wp_cond_false (hE.eval rfl) ?_
        refine wp_exit ?_
        refine q_then_e ?_
        refine q_then_e ?_
        refine q_block_x ?_
        refine hK7 _ _ ?_
        refine wp_seq_k (fun K11 hK11 => ?_)
        refine wp_drawnM hM (by kernel_rfl) (fun _ => False) [(0, true), (1, true), (3, true), (2, false), (4, true), (5, true), (6, false), (7, true), (8, true)] [(2, [(4, 2), (5, 2), (6, 5), (7, 5), (8, 2)]), (6, [(7, 6), (8, 6)])] (by kernel_rfl) rfl ?_
        intro w9 hM' hww9; clear hM; have hM := hM'; clear hM'
        refine s_move hE rfl rfl ?_; clear hE a; intro a hE
        refine s_move hE rfl rfl ?_; clear hE a; intro a hE
        refine s_loadN hE rfl (hM.get 1 rfl) row23 rfl (by intro X h; cases h; simp) rfl ?_; clear hE a; intro a hE
        obtain ⟨cl, hl⟩ := own_rd (hM.get 0 rfl)
        refine s_call hE rfl Tryd.call19 (of_c _ vM (BK ++ List.replicate i 0) BM _ cM _ (hM.get 3 rfl) hl (hM.get 2 rfl) (by simp; omega) (by omega)) rfl ?_
        rintro e w10 ⟨rfl, hN⟩
        refine ⟨_, rfl, hN.sta0 _, ?_⟩; clear hE a; intro a hE
        replace hM : Mem _ _ w10 [_, _, _, _] := hM.call0 hN trivial; clear hN
        refine s_bin hE rfl rfl (eqa23 (by first | simp | assumption) (by first | simp | assumption)).1 rfl ?_; clear hE a; intro a hE
        refine s_move hE rfl rfl ?_; clear hE a; intro a hE
        replace hE := hE.cast 53 rfl (show _ = Value.bool true from (congrArg Value.bool (decide_eq_true (hmacW_zeros hi))))
        refine g_yes hE rfl rfl ?_
        refine s_call hE rfl Tryd.call17 (works_c _ (hM.get 3 rfl)) rfl ?_
        rintro e w11 ⟨rfl, hN⟩
        refine ⟨_, rfl, hN.sta0 _, ?_⟩; clear hE a; intro a hE
        replace hM : Mem _ _ w11 [_, _, _, _] := hM.call0 hN trivial; clear hN
        refine s_pickt hE rfl rfl rfl ?_; clear hE a; intro a hE
        refine s_assign hE rfl rfl ?_; clear hE a; intro a hE
        refine q_nil ?_
        replace hE : Env a 56 [(1, _), (2, _), (6, _), (7, _), (9, _), (10, _), (42, _)] := hE.sel [1, 2, 6, 7, 9, 10, 42] rfl
        refine hK11 _ _ ?_
        refine wp_ret ?_
        refine f_ret1 hE rfl rfl ?_
        exact ⟨rfl, hM.nil⟩
    · replace hE := hE'; clear hE'
      replace hb38 := of_decide_eq_false hb38
      refine g_no (b := false) hE rfl rfl rfl ?_; clear hE a; intro a hE
      refine g_no (b := false) hE rfl rfl rfl ?_; clear hE a; intro a hE
      refine g_no (b := false) hE rfl rfl rfl ?_; clear hE a; intro a hE
      refine s_pickf hE rfl rfl rfl ?_; clear hE a; intro a hE
      refine q_nil ?_
      replace hE : Env a 56 [(1, _), (2, _), (7, _), (9, _), (10, _), (42, _)] := hE.sel [1, 2, 7, 9, 10, 42] rfl
      refine hK10 _ _ ?_
      refine wp_cond_false (hE.eval rfl) ?_
      refine wp_exit ?_
      refine q_then_e ?_
      refine q_then_e ?_
      refine q_block_x ?_
      refine hK7 _ _ ?_
      refine wp_seq_k (fun K11 hK11 => ?_)
      refine wp_drawnM hM (by kernel_rfl) (fun _ => False) [(0, true), (1, true), (3, true), (2, false), (4, true), (5, true), (6, false), (7, true), (8, true)] [(2, [(4, 2), (5, 2), (6, 5), (7, 5), (8, 2)]), (6, [(7, 6), (8, 6)])] (by kernel_rfl) rfl ?_
      intro w9 hM' hww9; clear hM; have hM := hM'; clear hM'
      refine s_move hE rfl rfl ?_; clear hE a; intro a hE
      refine s_move hE rfl rfl ?_; clear hE a; intro a hE
      refine s_loadN hE rfl (hM.get 1 rfl) row23 rfl (by intro X h; cases h; simp) rfl ?_; clear hE a; intro a hE
      obtain ⟨cl, hl⟩ := own_rd (hM.get 0 rfl)
      refine s_call hE rfl Tryd.call19 (of_c _ vM (BK ++ List.replicate i 0) BM _ cM _ (hM.get 3 rfl) hl (hM.get 2 rfl) (by simp; omega) (by omega)) rfl ?_
      rintro e w10 ⟨rfl, hN⟩
      refine ⟨_, rfl, hN.sta0 _, ?_⟩; clear hE a; intro a hE
      replace hM : Mem _ _ w10 [_, _, _, _] := hM.call0 hN trivial; clear hN
      refine s_bin hE rfl rfl (eqa23 (by first | simp | assumption) (by first | simp | assumption)).1 rfl ?_; clear hE a; intro a hE
      refine s_move hE rfl rfl ?_; clear hE a; intro a hE
      replace hE := hE.cast 53 rfl (show _ = Value.bool true from (congrArg Value.bool (decide_eq_true (hmacW_zeros hi))))
      refine g_yes hE rfl rfl ?_
      refine s_call hE rfl Tryd.call17 (works_c _ (hM.get 3 rfl)) rfl ?_
      rintro e w11 ⟨rfl, hN⟩
      refine ⟨_, rfl, hN.sta0 _, ?_⟩; clear hE a; intro a hE
      replace hM : Mem _ _ w11 [_, _, _, _] := hM.call0 hN trivial; clear hN
      refine s_pickt hE rfl rfl rfl ?_; clear hE a; intro a hE
      refine s_assign hE rfl rfl ?_; clear hE a; intro a hE
      refine q_nil ?_
      replace hE : Env a 56 [(1, _), (2, _), (6, _), (7, _), (9, _), (10, _), (42, _)] := hE.sel [1, 2, 6, 7, 9, 10, 42] rfl
      refine hK11 _ _ ?_
      refine wp_ret ?_
      refine f_ret1 hE rfl rfl ?_
      exact ⟨rfl, hM.nil⟩
set_option maxRecDepth 100000 in
theorem hmacKeys_lifted (os : Os) (started : os.Started) (H : Type) (enc : TypeId × Value → H) :
    ReturnsInHanded {} Tryd.checked os 4 .any (fun w args => (Rows.hmacKeysSpec.pre enc Tryd.prog Tryd.f4 [] false w args ∧ laidMetH Tryd.prog Rows.hmacKeysRow.laid w) ∧ sizedMet enc Tryd.prog Tryd.f4 (OpenSpec.ofChange Rows.hmacKeysSpec) false w args) (Rows.hmacKeysSpec.post enc Tryd.prog Tryd.f4 false true false false) := by
  refine law_liftedL (C := Tryd.checked) (fn := Tryd.f4) (l := Rows.hmacKeysRow.laid) (by kernel_rfl) started (by kernel_rfl) Tryd.func4 rfl (fun ds hl => ?_) rfl Tryd.underlying4 (by kernel_rfl) (of_decide_eq_true (by kernel_rfl)) (by kernel_rfl)
    (ChangeSpec.witness_shaped (enc := enc) (C := Tryd.checked) (os := os) (X := fun w _ => laidMetH Tryd.prog Rows.hmacKeysRow.laid w) false (World.laidAll Tryd.prog os Rows.hmacKeysRow.laid) #[.slice none 0 0, .slice none 0 0, .int .u8 0] 8 (World.laidAll_os _ _ _) (World.shaped_of_ZipB (by kernel_rfl) (by kernel_rfl)) (by kernel_rfl) (by kernel_rfl) (by kernel_rfl) (by rw [MakeChecks.laidMetH_plain _ _ _ (by kernel_rfl)]; exact laidMet_laidAll _ (by kernel_rfl) (by kernel_rfl))) ?_
  · rw [Tryd.params4] at hl
    match ds, hl with
    | [_, _, _], _ => rfl
  · intro W base args ds ps hval hA hw hL
    have hG := glb_of_laid (P := Tryd.prog) (g := 0) (t := 91) (e := 48) (by kernel_rfl) (by kernel_rfl) Tryd.underlying91 Tryd.underlying48 (by kernel_rfl) (by kernel_rfl) (by kernel_rfl) (show laidMet Tryd.prog (_ :: _) W from hL)
    rw [Tryd.params4] at hA hval hw
    obtain ⟨v0, vs0, d0, ds0, p0, q0, hargs, rfl, rfl, h0, r0⟩ := trodAll_cons hA
    obtain ⟨v1, vs1, d1, ds1, p1, q1, rfl, rfl, rfl, h1, r1⟩ := trodAll_cons r0
    obtain ⟨v2, vs2, d2, ds2, p2, q2, rfl, rfl, rfl, h2, r2⟩ := trodAll_cons r1
    obtain ⟨rfl, rfl, rfl⟩ := trodAll_nil r2
    obtain rfl : args = #[v0, v1, v2] := by cases args; simp_all
    obtain ⟨bs0, c0, hr0, hb0⟩ := arg_bytes Tryd.underlying26 Tryd.underlying5 (by kernel_rfl) (by kernel_rfl) (hval 0 26 v0 rfl rfl) h0 (fun m hm => hw m (by simp only [DataW.weightsEach, List.mem_append]; exact .inl hm))
    obtain ⟨bs1, c1, hr1, hb1⟩ := arg_bytes Tryd.underlying26 Tryd.underlying5 (by kernel_rfl) (by kernel_rfl) (hval 1 26 v1 rfl rfl) h1 (fun m hm => hw m (by simp only [DataW.weightsEach, List.mem_append]; exact .inr (.inl hm)))
    obtain ⟨z2, rfl, hz2, hy2⟩ := arg_int Tryd.underlying5 (hval 2 5 v2 rfl rfl) h2 (fun m hm => hw m (by simp only [DataW.weightsEach, List.mem_append]; exact .inr (.inr (.inl hm))))
    obtain ⟨x2, rfl⟩ := u8_of hz2 hy2
    exact hmacKeys_c v0 v1 bs0 bs1 c0 c1 x2 W hG hr0 hr1

/-- The row's statement. -/
theorem hmacKeys_row : Rows.HmacKeysSaid :=
  OpenClaim.holds_of_wide 4 Tryd.f4 rfl rfl rfl rfl rfl rfl rfl ⟨rfl, rfl, rfl, rfl, rfl⟩ rfl rfl rfl rfl rfl (by kernel_rfl) Tryd.func4 (by kernel_rfl)
    (of_decide_eq_true (by kernel_rfl)) (by unfold Func.isWrapper; first | (rw [if_pos (by decide +kernel)]; kernel_rfl) | (rw [if_neg (by decide +kernel)]; exact ⟨rfl, rfl⟩))
    (fun os started H enc _ => hmacKeys_lifted os started H enc)

/-- The statement: the row, its listed variable tied to the program's text. -/
theorem hmacKeys_holds : Rows.HmacKeysCardSaid :=
  Claim7.holds_tied_plain_at .later [] [.data] true (true, "84ae260bd57be45edc78bdc8f25baf9a88e7d5216b5328ce6ba213109669f402") true
    hmacKeys_row (fun _ h => by cases h) (by kernel_rfl) (fun _ h => by cases h) hmacKeys_row_tie rfl ⟨rfl, rfl⟩ (by kernel_rfl) rfl
    (fun f fn hf hfn => by
      obtain rfl : f = 4 := Option.some.inj ((show Tryd.prog.funcNamed "casemate/casematelaw04.HmacKeys" = some 4 by kernel_rfl).symm.trans hf) |>.symm
      obtain rfl : fn = Tryd.f4 := (Option.some.inj (Tryd.func4.symm.trans hfn)).symm
      exact ⟨by kernel_rfl, fun j t ht => by
        rw [Tryd.params4] at ht
        have h : t ∈ [26, 26, 5] := by
          rcases j with _ | _ | _ | j
          · simp at ht; simp [ht]
          · simp at ht; simp [ht]
          · simp at ht; simp [ht]
          · simp at ht
        simp only [List.mem_cons, List.not_mem_nil, or_false] at h
        rcases h with rfl | rfl | rfl
        · exact (show Tryd.prog.wantsStandIn 26 = false by kernel_rfl)
        · exact (show Tryd.prog.wantsStandIn 26 = false by kernel_rfl)
        · exact (show Tryd.prog.wantsStandIn 5 = false by kernel_rfl)⟩)
    (by kernel_rfl)
#print axioms hmacKeys_holds
end Go.Proofs.YtcmikkfekmmheaaDoor
