/- BytesOwn of casematelaw06 returns true for whatever bytes, and they read behind the call as before. No condition. -/
import Derived.Test.YtfdndkempgnlcaaLb
namespace Go.Proofs.Ytfdndkempgnlcaa
open Go Go.Kx
open Go.ChangeShapes Go.WideShapes Go.ChangeAt Go.RowKit
theorem sz5 : (Try.prog.info? 5).map (·.size) = some 1 := by kernel_rfl
theorem bytesOwn_c (b0 : List UInt8) (v : Value) (c0 : Nat) (w : World) (hr : (rd v 1 b0.length c0 (bv b0)).holds w) : Calls Try.prog 6 #[v] w fun e w' => e = .returned (.bool true) ∧ Mem w [] w' [] := by
  have hM := Mem.startR1 hr rfl
  refine f_enter 129 Try.func6 rfl rfl rfl ?_
  intro a hE
  replace hE : Env a 129 [(0, _)] := hE
  refine wp_seq_k (fun K1 hK1 => ?_)
  refine wp_plain [true] rfl rfl ?_
  refine s_assign hE rfl rfl ?_; clear hE a; intro a hE
  refine q_nil ?_
  refine hK1 _ _ ?_
  refine wp_seq_k (fun K2 hK2 => ?_)
  refine wp_plain [true, false, true] rfl rfl ?_
  refine s_move hE rfl rfl ?_; clear hE a; intro a hE
  refine s_call hE rfl Try.call10 (cut_c b0 v c0 _ (hM.get 0 rfl)) rfl ?_
  rintro e w1 ⟨vB, cB, rfl, hvb, hrB, hN⟩
  refine ⟨_, rfl, trivial, ?_⟩; clear hE a; intro a hE
  replace hM : Mem _ _ w1 [_] := hM.call0 hN trivial; clear hN
  replace hM := hM.addPart 0 rfl hrB hvb; clear hrB hvb
  have hB : (b0.take 5000).length ≤ 5000 := by simp; omega
  generalize b0.take 5000 = B at hM hB
  refine s_assign hE rfl rfl ?_; clear hE a; intro a hE
  refine q_nil ?_
  replace hE : Env a 129 [(0, _), (2, _)] := hE.sel [0, 2] rfl
  refine hK2 _ _ ?_
  refine wp_seq_k (fun K3 hK3 => ?_)
  refine wp_plain [false, true, false, false, false, true] rfl rfl ?_
  refine s_buildSlice (xs := []) ([]) hE hM sl23 rfl rfl rfl (by intro v hv; cases hv) rfl rfl rfl rfl ?_; clear hE a; intro a v15 w2 hE hM'
  clear hM; have hM := hM'; clear hM'
  refine s_move hE rfl rfl ?_; clear hE a; intro a hE
  have hy := hM.get 1 rfl
  refine s_append hE rfl rfl hM sl23 (Src.rd Try.underlying23 hy (bv_one _)) (len47 (by omega)) (by omega) (by intro X h; cases h) rfl ?_; clear hE a hy; intro a v17 w3 hE hM'
  clear hM; have hM := hM'; clear hM'
  refine s_buildSlice (xs := [.const (.int .u8 1), .const (.int .u8 2), .const (.int .u8 3), .const (.int .u8 4), .const (.int .u8 5), .const (.int .u8 6), .const (.int .u8 7), .const (.int .u8 8)]) (bv [1, 2, 3, 4, 5, 6, 7, 8]) hE hM sl23 rfl rfl rfl (by intro v hv; simp at hv; rcases hv with rfl | rfl | rfl | rfl | rfl | rfl | rfl | rfl <;> rfl) (by simp [bv, bV, Value.cells]) rfl rfl rfl ?_; clear hE a; intro a v18 w4 hE hM'
  clear hM; have hM := hM'; clear hM'
  replace hM : Mem _ _ w4 [_, _, _, _] := hM.pick [1, 0, 2, 3] rfl
  obtain ⟨cy, hy⟩ := own_rd (hM.get 1 rfl)
  refine s_append hE rfl rfl hM sl23 (Src.rd Try.underlying23 hy (bv_one _)) (len47 (by simp; omega)) (by simp; omega) (by intro X h; cases h) rfl ?_; clear hE a hy; intro a v19 w5 hE hM'
  clear hM; have hM := hM'; clear hM'
  replace hM : Mem _ _ w5 [_, _, _] := hM.pick [0, 2, 3] rfl
  replace hM := hM.ownEq (m' := B.length + 8) (cs' := bv (B ++ [1, 2, 3, 4, 5, 6, 7, 8])) (by simp) (by simp)
  refine s_assign hE rfl rfl ?_; clear hE a; intro a hE
  refine q_nil ?_
  replace hE : Env a 129 [(0, _), (2, _), (3, _)] := hE.sel [0, 2, 3] rfl
  refine hK3 _ _ ?_
  refine wp_seq_k (fun K4 hK4 => ?_)
  refine wp_plain [true, true, true, true, true] rfl rfl ?_
  refine s_move hE rfl rfl ?_; clear hE a; intro a hE
  refine s_move hE rfl rfl ?_; clear hE a; intro a hE
  refine s_len hE rfl Try.underlying23 (rd_slice (hM.get 1 rfl)) rfl ?_; clear hE a; intro a hE
  refine s_sliceTo (l := B.length) hE rfl (hM.get 0 rfl) slt23 ⟨_, rfl⟩ (by simp) rfl ?_; clear hE a; intro a hE
  refine s_assign hE rfl rfl ?_; clear hE a; intro a hE
  refine q_nil ?_
  replace hE : Env a 129 [(0, _), (2, _), (3, _), (4, _)] := hE.sel [0, 2, 3, 4] rfl
  refine hK4 _ _ ?_
  refine wp_seq_k (fun K5 hK5 => ?_)
  refine wp_plain [true, false, true, true, true, true, true] rfl rfl ?_
  refine s_move hE rfl rfl ?_; clear hE a; intro a hE
  obtain ⟨csn, hsn⟩ := own_subApp (hM.get 0 rfl) (by simp) rfl
  refine s_call hE rfl Try.call20 ((by have h := num_c B _ _ 4 77 _ hsn (by omega); rw [show pNum B 4 77 = (B ++ laid 4 77, 0) from by simp [pNum, numFits, widthB]] at h; exact h)) rfl ?_
  rintro e w6 ⟨vp, rfl, hN⟩
  refine ⟨_, rfl, trivial, ?_⟩; clear hE a; intro a hE
  replace hM : Mem _ _ w6 [_, _, _, _] := hM.call0 hN ⟨rfl, trivial⟩; clear hN
  refine s_move hE rfl rfl ?_; clear hE a; intro a hE
  refine s_extract hE rfl rfl rfl ?_; clear hE a; intro a hE
  refine s_extract hE rfl rfl rfl ?_; clear hE a; intro a hE
  refine s_assign hE rfl rfl ?_; clear hE a; intro a hE
  refine s_assign hE rfl rfl ?_; clear hE a; intro a hE
  refine q_nil ?_
  replace hE : Env a 129 [(0, _), (2, _), (3, _), (4, _), (5, _), (6, _)] := hE.sel [0, 2, 3, 4, 5, 6] rfl
  refine hK5 _ _ ?_
  refine wp_seq_k (fun K6 hK6 => ?_)
  refine wp_plain [true, false, true, true, true, true, true] rfl rfl ?_
  refine s_move hE rfl rfl ?_; clear hE a; intro a hE
  obtain ⟨cst, hst⟩ := own_subApp (hM.get 1 rfl) (by simp) rfl
  refine s_call hE rfl Try.call22 ((by have h := text_c B _ _ ⟨#[97, 98]⟩ _ hst (by show _ + 2 + 2 ≤ _; omega); rw [show pText B [97, 98] = (B ++ (laid 2 2 ++ [97, 98]), 0) from by simp [pText]] at h; exact h)) rfl ?_
  rintro e w7 ⟨vq, rfl, hN⟩
  refine ⟨_, rfl, trivial, ?_⟩; clear hE a; intro a hE
  replace hM : Mem _ _ w7 [_, _, _, _, _] := hM.call0 hN ⟨rfl, trivial⟩; clear hN
  refine s_move hE rfl rfl ?_; clear hE a; intro a hE
  refine s_extract hE rfl rfl rfl ?_; clear hE a; intro a hE
  refine s_extract hE rfl rfl rfl ?_; clear hE a; intro a hE
  refine s_assign hE rfl rfl ?_; clear hE a; intro a hE
  refine s_assign hE rfl rfl ?_; clear hE a; intro a hE
  refine q_nil ?_
  replace hE : Env a 129 [(0, _), (2, _), (3, _), (4, _), (5, _), (6, _), (7, _), (8, _)] := hE.sel [0, 2, 3, 4, 5, 6, 7, 8] rfl
  refine hK6 _ _ ?_
  refine wp_seq_k (fun K7 hK7 => ?_)
  refine wp_seq_k (fun K8 hK8 => ?_)
  refine wp_plain [true, true, true, true, true, true, true, true, true, true, true, true, true, true, true, true, true, true, true, true, true, true, true, true, true, true, true, true, true, true, true, true, true, true, true, true, true, true, true] rfl rfl ?_
  refine s_move hE rfl rfl ?_; clear hE a; intro a hE
  refine s_bin hE rfl rfl bin_neq rfl ?_; clear hE a; intro a hE
  refine s_move hE rfl rfl ?_; clear hE a; intro a hE
  replace hE := hE.cast 36 rfl (show _ = Value.bool false from (congrArg Value.bool (by first | rfl | decide | (simp; done) | (simp; omega))))
  refine g_yes hE rfl rfl ?_
  refine s_move hE rfl rfl ?_; clear hE a; intro a hE
  refine g_yes hE rfl rfl ?_
  refine s_bin hE rfl rfl bin_neq rfl ?_; clear hE a; intro a hE
  refine s_pickf hE rfl rfl rfl ?_; clear hE a; intro a hE
  refine s_move hE rfl rfl ?_; clear hE a; intro a hE
  replace hE := hE.cast 40 rfl (show _ = Value.bool false from (congrArg Value.bool (by first | rfl | decide | (simp; done) | (simp; omega))))
  refine g_yes hE rfl rfl ?_
  refine s_move hE rfl rfl ?_; clear hE a; intro a hE
  refine g_yes hE rfl rfl ?_
  refine s_len hE rfl Try.underlying23 (own_slice (hM.get 1 rfl)) rfl ?_; clear hE a; intro a hE
  refine g_yes hE rfl rfl ?_
  refine s_move hE rfl rfl ?_; clear hE a; intro a hE
  refine g_yes hE rfl rfl ?_
  refine s_len hE rfl Try.underlying23 (rd_slice (hM.get 3 rfl)) rfl ?_; clear hE a; intro a hE
  refine g_yes hE rfl rfl ?_
  refine s_bin hE rfl rfl (bin_add (wrap_i64 (by omega) (by omega))) rfl ?_; clear hE a; intro a hE
  refine g_yes hE rfl rfl ?_
  refine s_bin hE rfl rfl bin_neq rfl ?_; clear hE a; intro a hE
  refine s_pickf hE rfl rfl rfl ?_; clear hE a; intro a hE
  refine s_move hE rfl rfl ?_; clear hE a; intro a hE
  replace hE := hE.cast 48 rfl (show _ = Value.bool false from (congrArg Value.bool (by first | rfl | decide | (simp; done) | (simp; omega))))
  refine g_yes hE rfl rfl ?_
  refine s_move hE rfl rfl ?_; clear hE a; intro a hE
  refine g_yes hE rfl rfl ?_
  refine s_len hE rfl Try.underlying23 (own_slice (hM.get 0 rfl)) rfl ?_; clear hE a; intro a hE
  refine g_yes hE rfl rfl ?_
  refine s_move hE rfl rfl ?_; clear hE a; intro a hE
  refine g_yes hE rfl rfl ?_
  refine s_len hE rfl Try.underlying23 (rd_slice (hM.get 3 rfl)) rfl ?_; clear hE a; intro a hE
  refine g_yes hE rfl rfl ?_
  refine s_bin hE rfl rfl (bin_add (wrap_i64 (by omega) (by omega))) rfl ?_; clear hE a; intro a hE
  refine g_yes hE rfl rfl ?_
  refine s_bin hE rfl rfl bin_neq rfl ?_; clear hE a; intro a hE
  refine s_pickf hE rfl rfl rfl ?_; clear hE a; intro a hE
  refine s_move hE rfl rfl ?_; clear hE a; intro a hE
  replace hE := hE.cast 56 rfl (show _ = Value.bool false from (congrArg Value.bool (by first | rfl | decide | (simp; done) | (simp; omega))))
  refine g_yes hE rfl rfl ?_
  refine s_move hE rfl rfl ?_; clear hE a; intro a hE
  refine g_yes hE rfl rfl ?_
  refine s_move hE rfl rfl ?_; clear hE a; intro a hE
  refine g_yes hE rfl rfl ?_
  refine s_len hE rfl Try.underlying23 (rd_slice (hM.get 3 rfl)) rfl ?_; clear hE a; intro a hE
  refine g_yes hE rfl rfl ?_
  obtain ⟨cx60, hx60⟩ := own_rd (hM.get 2 rfl)
  refine s_indexRd (j := B.length) hE rfl hx60 rfl slt23 (by first | rfl | omega) (by first | omega | decide) rfl ?_; clear hE a; intro a p60 hE hc60 hp60
  refine g_yes hE rfl rfl ?_
  rw [(show ((bv (B ++ [1, 2, 3, 4, 5, 6, 7, 8])).drop (B.length * 1)).take 1 = [.int .u8 1] from by rw [bv_elem (by simp)]; simp [bV])] at hc60
  refine s_loadAt1 hE rfl hc60 one5 (by intro X h; cases h) rfl ?_; clear hE a; intro a hE
  refine g_yes hE rfl rfl ?_
  refine s_bin hE rfl rfl bin_neq rfl ?_; clear hE a; intro a hE
  refine s_pickf hE rfl rfl rfl ?_; clear hE a; intro a hE
  refine s_move hE rfl rfl ?_; clear hE a; intro a hE
  replace hE := hE.cast 64 rfl (show _ = Value.bool false from (congrArg Value.bool (by first | rfl | decide | (simp; done) | (simp; omega))))
  refine g_yes hE rfl rfl ?_
  refine s_move hE rfl rfl ?_; clear hE a; intro a hE
  refine g_yes hE rfl rfl ?_
  refine s_move hE rfl rfl ?_; clear hE a; intro a hE
  refine g_yes hE rfl rfl ?_
  refine s_len hE rfl Try.underlying23 (rd_slice (hM.get 3 rfl)) rfl ?_; clear hE a; intro a hE
  refine g_yes hE rfl rfl ?_
  refine s_bin hE rfl rfl (bin_add (wrap_i64 (by omega) (by omega))) rfl ?_; clear hE a; intro a hE
  refine g_yes hE rfl rfl ?_
  obtain ⟨cx69, hx69⟩ := own_rd (hM.get 2 rfl)
  refine s_indexRd (j := B.length + 1) hE rfl hx69 rfl slt23 (by first | rfl | omega) (by first | omega | decide) rfl ?_; clear hE a; intro a p69 hE hc69 hp69
  refine g_yes hE rfl rfl ?_
  rw [(show ((bv (B ++ [1, 2, 3, 4, 5, 6, 7, 8])).drop ((B.length + 1) * 1)).take 1 = [.int .u8 2] from by rw [bv_elem (by simp)]; simp [bV])] at hc69
  refine s_loadAt1 hE rfl hc69 one5 (by intro X h; cases h) rfl ?_; clear hE a; intro a hE
  refine g_yes hE rfl rfl ?_
  refine s_bin hE rfl rfl bin_neq rfl ?_; clear hE a; intro a hE
  refine s_pickf hE rfl rfl rfl ?_; clear hE a; intro a hE
  refine q_nil ?_
  replace hE : Env a 129 [(0, _), (2, _), (3, _), (4, _), (5, _), (7, _), (72, _)] := hE.sel [0, 2, 3, 4, 5, 7, 72] rfl
  refine hK8 _ _ ?_
  replace hE := hE.cast 72 rfl (show _ = Value.bool false from (congrArg Value.bool (by first | rfl | decide | (simp; done) | (simp; omega))))
  refine wp_cond_false (hE.eval rfl) ?_
  refine wp_skip ?_
  refine hK7 _ _ ?_
  refine wp_seq_k (fun K9 hK9 => ?_)
  refine wp_seq_k (fun K10 hK10 => ?_)
  refine wp_plain [true] rfl rfl ?_
  refine s_assign hE rfl rfl ?_; clear hE a; intro a hE
  refine q_nil ?_
  refine hK10 _ _ ?_
  refine wp_block ?_
  replace hM : Mem _ _ w7 [_, _, _, _, _] := hM.pick [2, 0, 1, 3, 4] rfl
  replace hM := hM.subOwn (l := B.length) (by omega)
  rw [show (bv (B ++ [1, 2, 3, 4, 5, 6, 7, 8])).take (B.length * 1) = bv B from by rw [Nat.mul_one, bv_take, List.take_left]] at hM
  replace hM : Mem _ _ w7 [_, _, _, _, _] := hM.pick [0, 3, 2, 1, 4] rfl
  refine c_loop (fun (i : Nat) a w' => i ≤ B.length ∧ ∃ cs : List UInt8, cs.length = B.length ∧ Env a 129 [(0, vB), (4, subV v19 B.length), (5, vp), (7, vq), (9, .int .i64 i)] ∧ Mem w [] w' [own (subV v19 B.length) 1 B.length (bv cs), rd vB 1 B.length cB (bv B), own vp 1 (B ++ laid 4 77).length (bv (B ++ laid 4 77)), own vq 1 (B ++ (laid 2 2 ++ [97, 98])).length (bv (B ++ (laid 2 2 ++ [97, 98])))]) (fun i => B.length - i) 0 ⟨Nat.zero_le _, _, rfl, hE.sel [0, 4, 5, 7, 9] rfl, hM.pick [0, 1, 2, 3] rfl⟩ ?_
  clear hE hM a; rintro i a w9 ⟨hi, cs, hcs, hE, hM⟩
  refine wp_seq_k (fun K11 hK11 => ?_)
  refine wp_seq_k (fun K12 hK12 => ?_)
  refine wp_plain [true, true, true, true] rfl rfl ?_
  refine s_move hE rfl rfl ?_; clear hE a; intro a hE
  refine s_move hE rfl rfl ?_; clear hE a; intro a hE
  refine s_len hE rfl Try.underlying23 (own_slice (hM.get 0 rfl)) rfl ?_; clear hE a; intro a hE
  refine s_bin hE rfl rfl bin_lss rfl ?_; clear hE a; intro a hE
  refine q_nil ?_
  replace hE : Env a 129 [(0, _), (4, _), (5, _), (7, _), (9, _), (76, _)] := hE.sel [0, 4, 5, 7, 9, 76] rfl
  refine hK12 _ _ ?_
  refine hE.split 76 rfl (fun hb76 hE' => ?_) (fun hb76 hE' => ?_)
  · replace hE := hE'; clear hE'
    replace hb76 := of_decide_eq_true hb76
    refine wp_cond_true (hE.eval rfl) ?_
    refine wp_skip ?_
    refine hK11 _ _ ?_
    refine wp_seq_k (fun K13 hK13 => ?_)
    refine wp_block ?_
    refine wp_plain [true, true, true, true, true, true, false] rfl rfl ?_
    refine s_move hE rfl rfl ?_; clear hE a; intro a hE
    refine s_move hE rfl rfl ?_; clear hE a; intro a hE
    refine s_indexOwn (j := i) hE rfl (hM.get 0 rfl) rfl slt23 (by first | rfl | omega) (by first | omega | decide) rfl ?_; clear hE a; intro a hE hc81
    rw [bv_elem (by omega)] at hc81
    refine s_loadAt1 hE rfl hc81 one5 (by intro X h; cases h) rfl ?_; clear hE a; intro a hE
    refine s_bin hE rfl rfl bin_inc_u8 rfl ?_; clear hE a; intro a hE
    refine s_indexOwn (j := i) hE rfl (hM.get 0 rfl) rfl slt23 (by first | rfl | omega) (by first | omega | decide) rfl ?_; clear hE a; intro a hE hc84
    refine s_storeOwn (vs := [bV _]) hE rfl rfl hM rfl sz5 rfl (by intro u hu; rw [List.mem_singleton.1 hu]; rfl) (by simp; omega) (by omega) (by intro X h; cases h) ?_; intro w10 hM'; clear hM; have hM := hM'; clear hM'
    refine q_nil ?_
    replace hE : Env a 129 [(0, _), (4, _), (5, _), (7, _), (9, _), (76, _)] := hE.sel [0, 4, 5, 7, 9, 76] rfl
    refine q_block_n ?_
    refine hK13 _ _ ?_
    refine wp_plain [true, true, true] rfl rfl ?_
    refine s_move hE rfl rfl ?_; clear hE a; intro a hE
    refine s_bin hE rfl rfl (bin_add (wrap_i64 (by omega) (by omega))) rfl ?_; clear hE a; intro a hE
    refine s_assign hE rfl rfl ?_; clear hE a; intro a hE
    refine q_nil ?_
    replace hE : Env a 129 [(0, _), (4, _), (5, _), (7, _), (9, _), (76, _)] := hE.sel [0, 4, 5, 7, 9, 76] rfl
    replace hE := hE.cast 9 rfl (show _ = Value.int .i64 ((i + 1 : Nat) : Int) from congrArg _ (by omega))
    exact ⟨i + 1, ⟨by omega, cs.set i (cs.getD i 0 + 1), by simpa using hcs, hE.sel [0, 4, 5, 7, 9] rfl, by rw [bv_set (by omega)] at hM; exact hM⟩, by omega⟩
  · replace hE := hE'; clear hE'
    replace hb76 := of_decide_eq_false hb76
    obtain rfl : i = B.length := by omega
    refine wp_cond_false (hE.eval rfl) ?_
    refine wp_exit ?_
    refine q_then_e ?_
    refine q_then_e ?_
    refine q_block_x ?_
    refine hK9 _ _ ?_
    refine wp_seq_k (fun K13 hK13 => ?_)
    refine wp_plain [true, false, true] rfl rfl ?_
    refine s_move hE rfl rfl ?_; clear hE a; intro a hE
    refine s_call hE rfl Try.call24 (open_c B _ _ _ (hM.get 1 rfl) (by omega)) rfl ?_
    rintro e w10 ⟨tb, bb, rfl, hbb, hN⟩
    refine ⟨_, rfl, trivial, ?_⟩; clear hE a; intro a hE
    replace hM : Mem _ _ w10 [_, _, _, _, _] := hM.callN hN (fun e he x hx => by rw [List.mem_singleton.1 he] at hx; exact hbb x hx); clear hN
    refine s_assign hE rfl rfl ?_; clear hE a; intro a hE
    refine q_nil ?_
    replace hE : Env a 129 [(0, _), (4, _), (5, _), (7, _), (9, _), (10, _), (76, _)] := hE.sel [0, 4, 5, 7, 9, 10, 76] rfl
    refine hK13 _ _ ?_
    refine wp_seq_k (fun K14 hK14 => ?_)
    refine wp_plain [true, true, true, false, true] rfl rfl ?_
    refine s_move hE rfl rfl ?_; clear hE a; intro a hE
    refine s_move hE rfl rfl ?_; clear hE a; intro a hE
    refine s_len hE rfl Try.underlying23 (rd_slice (hM.get 2 rfl)) rfl ?_; clear hE a; intro a hE
    refine s_call hE rfl Try.call25 (tapBytes_ok tb bb B B.length _ (hM.get 0 rfl) (Nat.le_refl _)) rfl ?_
    rintro e w11 ⟨vt, rfl, hvt, hN⟩
    refine ⟨_, rfl, trivial, ?_⟩; clear hE a; intro a hE
    replace hM : Mem _ _ w11 [_, _, _, _, _, _] := hM.call1 hN (fun f hf x hx => (List.mem_cons.1 hf).elim (fun h => by subst h; rw [List.take_length] at hx; exact .inl (hvt x hx)) (fun h => by rw [List.mem_singleton.1 h] at hx; exact .inl hx)); clear hN
    rw [List.take_length, List.drop_length] at hM
    refine s_assign hE rfl rfl ?_; clear hE a; intro a hE
    refine q_nil ?_
    replace hE : Env a 129 [(0, _), (4, _), (5, _), (7, _), (9, _), (10, _), (11, _), (76, _)] := hE.sel [0, 4, 5, 7, 9, 10, 11, 76] rfl
    refine hK14 _ _ ?_
    refine wp_seq_k (fun K15 hK15 => ?_)
    refine wp_plain [true, false, false, true] rfl rfl ?_
    refine s_move hE rfl rfl ?_; clear hE a; intro a hE
    refine s_buildSlice (xs := [.const (.int .u8 9)]) (bv [9]) hE hM sl23 rfl rfl rfl (by intro v hv; simp at hv; subst hv; rfl) rfl rfl rfl rfl ?_; clear hE a; intro a v92 w12 hE hM'
    clear hM; have hM := hM'; clear hM'
    obtain ⟨cy, hy⟩ := own_rd (hM.get 0 rfl)
    refine s_appendFull hE rfl rfl hM (hM.get 1 rfl) sl23 (Src.rd Try.underlying23 hy (bv_one _)) (by simp) (len47 (by simp; omega)) (by simp; omega) rfl ?_; clear hE a hy; intro a v93 w13 hE hM'
    clear hM; have hM := hM'; clear hM'
    replace hM := hM.ownEq (m' := B.length + 1) (cs' := bv (B ++ [9])) (by simp) (by simp)
    refine s_assign hE rfl rfl ?_; clear hE a; intro a hE
    refine q_nil ?_
    replace hE : Env a 129 [(0, _), (4, _), (5, _), (7, _), (9, _), (10, _), (12, _), (76, _)] := hE.sel [0, 4, 5, 7, 9, 10, 12, 76] rfl
    refine hK15 _ _ ?_
    refine wp_seq_k (fun K16 hK16 => ?_)
    refine wp_drawnM hM (by kernel_rfl) (fun _ => False) [(0, true), (1, true), (2, true), (3, true), (4, true), (5, true), (6, true), (7, true), (8, true), (9, true), (10, true), (11, true), (12, true), (13, true), (14, true), (15, true), (16, true), (17, true), (18, true), (19, true), (20, true), (21, true), (22, true), (23, true), (24, true), (25, true), (26, true), (27, true), (28, true), (29, true), (30, false), (31, true), (32, true), (33, false), (34, true), (35, true)] [(30, [(31, 30), (32, 30), (33, 32), (34, 32), (35, 30)]), (33, [(34, 33), (35, 33)])] (by kernel_rfl) rfl ?_
    intro w14 hM' hww14; clear hM; have hM := hM'; clear hM'
    refine s_move hE rfl rfl ?_; clear hE a; intro a hE
    refine s_move hE rfl rfl ?_; clear hE a; intro a hE
    refine s_len hE rfl Try.underlying23 (rd_slice (hM.get 5 rfl)) rfl ?_; clear hE a; intro a hE
    refine s_sliceTo (l := B.length) hE rfl (hM.get 6 rfl) slt23 ⟨_, rfl⟩ (by simp) rfl ?_; clear hE a; intro a hE
    obtain ⟨cs98, hs98⟩ := own_subApp (hM.get 6 rfl) (by simp) rfl
    refine s_toStr hE rfl Try.underlying23 Try.underlying5 Try.underlying9 hs98 (by intro X h; cases h; simp) rfl ?_; clear hE a; intro a hE
    refine s_move hE rfl rfl ?_; clear hE a; intro a hE
    refine s_toStr hE rfl Try.underlying23 Try.underlying5 Try.underlying9 (hM.get 5 rfl) (by intro X h; cases h; simp) rfl ?_; clear hE a; intro a hE
    refine s_bin hE rfl rfl bins_str.1 rfl ?_; clear hE a; intro a hE
    refine s_move hE rfl rfl ?_; clear hE a; intro a hE
    replace hE := hE.cast 102 rfl (show _ = Value.bool true from (congrArg Value.bool (by first | rfl | decide | (simp; done) | (simp; omega))))
    refine g_yes hE rfl rfl ?_
    refine s_move hE rfl rfl ?_; clear hE a; intro a hE
    refine g_yes hE rfl rfl ?_
    refine s_move hE rfl rfl ?_; clear hE a; intro a hE
    refine g_yes hE rfl rfl ?_
    refine s_len hE rfl Try.underlying23 (rd_slice (hM.get 5 rfl)) rfl ?_; clear hE a; intro a hE
    refine g_yes hE rfl rfl ?_
    refine s_sliceTo (l := B.length) hE rfl (hM.get 7 rfl) slt23 ⟨_, rfl⟩ (by simp) rfl ?_; clear hE a; intro a hE
    refine g_yes hE rfl rfl ?_
    obtain ⟨cs107, hs107⟩ := own_subApp (hM.get 7 rfl) (by simp) rfl
    refine s_toStr hE rfl Try.underlying23 Try.underlying5 Try.underlying9 hs107 (by intro X h; cases h; simp) rfl ?_; clear hE a; intro a hE
    refine g_yes hE rfl rfl ?_
    refine s_move hE rfl rfl ?_; clear hE a; intro a hE
    refine g_yes hE rfl rfl ?_
    refine s_toStr hE rfl Try.underlying23 Try.underlying5 Try.underlying9 (hM.get 5 rfl) (by intro X h; cases h; simp) rfl ?_; clear hE a; intro a hE
    refine g_yes hE rfl rfl ?_
    refine s_bin hE rfl rfl bins_str.1 rfl ?_; clear hE a; intro a hE
    refine s_pickt hE rfl rfl rfl ?_; clear hE a; intro a hE
    refine s_move hE rfl rfl ?_; clear hE a; intro a hE
    replace hE := hE.cast 112 rfl (show _ = Value.bool true from (congrArg Value.bool (by first | rfl | decide | (simp; done) | (simp; omega))))
    refine g_yes hE rfl rfl ?_
    refine s_move hE rfl rfl ?_; clear hE a; intro a hE
    refine g_yes hE rfl rfl ?_
    refine s_move hE rfl rfl ?_; clear hE a; intro a hE
    refine g_yes hE rfl rfl ?_
    refine s_len hE rfl Try.underlying23 (rd_slice (hM.get 5 rfl)) rfl ?_; clear hE a; intro a hE
    refine g_yes hE rfl rfl ?_
    refine s_sliceTo (l := B.length) hE rfl (hM.get 0 rfl) slt23 ⟨_, rfl⟩ (by simp) rfl ?_; clear hE a; intro a hE
    refine g_yes hE rfl rfl ?_
    obtain ⟨cs117, hs117⟩ := own_subApp (hM.get 0 rfl) (by simp) rfl
    refine s_toStr hE rfl Try.underlying23 Try.underlying5 Try.underlying9 hs117 (by intro X h; cases h; simp) rfl ?_; clear hE a; intro a hE
    refine g_yes hE rfl rfl ?_
    refine s_move hE rfl rfl ?_; clear hE a; intro a hE
    refine g_yes hE rfl rfl ?_
    refine s_toStr hE rfl Try.underlying23 Try.underlying5 Try.underlying9 (hM.get 5 rfl) (by intro X h; cases h; simp) rfl ?_; clear hE a; intro a hE
    refine g_yes hE rfl rfl ?_
    refine s_bin hE rfl rfl bins_str.1 rfl ?_; clear hE a; intro a hE
    refine s_pickt hE rfl rfl rfl ?_; clear hE a; intro a hE
    refine s_move hE rfl rfl ?_; clear hE a; intro a hE
    replace hE := hE.cast 122 rfl (show _ = Value.bool true from (congrArg Value.bool (by first | rfl | decide | (simp; done) | (simp; omega))))
    refine g_yes hE rfl rfl ?_
    refine s_move hE rfl rfl ?_; clear hE a; intro a hE
    refine g_yes hE rfl rfl ?_
    refine s_call hE rfl Try.call26 (tapEnd_c tb bb _ _ _ (hM.get 3 rfl)) rfl ?_
    rintro e w15 ⟨rfl, hN⟩
    refine ⟨_, rfl, hN.sta0 _, ?_⟩; clear hE a; intro a hE
    replace hM : Mem _ _ w15 [_, _, _, _, _, _, _, _] := hM.call0 hN trivial; clear hN
    refine s_pickt hE rfl rfl rfl ?_; clear hE a; intro a hE
    refine s_move hE rfl rfl ?_; clear hE a; intro a hE
    replace hE := hE.cast 126 rfl (show _ = Value.bool true from (congrArg Value.bool (by first | rfl | decide | (simp; done) | (simp; omega))))
    refine g_yes hE rfl rfl ?_
    refine s_call hE rfl Try.call16 (works_c _) rfl ?_
    rintro e w16 ⟨rfl, hN⟩
    refine ⟨_, rfl, hN.sta0 _, ?_⟩; clear hE a; intro a hE
    replace hM : Mem _ _ w16 [_, _, _, _, _, _, _, _] := hM.call0 hN trivial; clear hN
    refine s_pickt hE rfl rfl rfl ?_; clear hE a; intro a hE
    refine s_assign hE rfl rfl ?_; clear hE a; intro a hE
    refine q_nil ?_
    replace hE : Env a 129 [(0, _), (2, _), (4, _), (5, _), (7, _), (9, _), (10, _), (76, _)] := hE.sel [0, 2, 4, 5, 7, 9, 10, 76] rfl
    refine hK16 _ _ ?_
    refine wp_ret ?_
    refine f_ret1 hE rfl rfl ?_
    exact ⟨rfl, hM.nil⟩
set_option maxRecDepth 100000 in
theorem bytesOwn_lifted (os : Os) (started : os.Started) (H : Type) (enc : TypeId × Value → H) :
    ReturnsInHanded {} Try.checked os 6 .any (Rows.bytesOwnSpec.pre6 enc Try.prog Try.f6 Rows.bytesOwnRow.domain false) (Rows.bytesOwnSpec.post enc Try.prog Try.f6 false true false false) := by
  refine law_lifted (C := Try.checked) (fn := Try.f6) (by kernel_rfl) started (by kernel_rfl) Try.func6 rfl (fun ds hl => ?_) rfl Try.underlying4 (by kernel_rfl) (of_decide_eq_true (by kernel_rfl)) (ChangeSpec.witness6 (enc := enc) (C := Try.checked) false ⟨#[], #[.slice none 0 0], []⟩ 8 (by kernel_rfl) (by kernel_rfl) (by kernel_rfl) (by kernel_rfl)) ?_
  · rw [Try.params6] at hl
    match ds, hl with
    | [_], _ => rfl
  · intro W base args ds ps hval hA hw
    rw [Try.params6] at hA hval hw
    obtain ⟨v0, vs0, d0, ds0, p0, q0, hargs, rfl, rfl, h0, r0⟩ := trodAll_cons hA
    obtain ⟨rfl, rfl, rfl⟩ := trodAll_nil r0
    obtain rfl : args = #[v0] := by cases args; simp_all
    obtain ⟨bs0, c0, hr0, hb0⟩ := arg_bytes Try.underlying23 Try.underlying5 (by kernel_rfl) (by kernel_rfl) (hval 0 23 v0 rfl rfl) h0 (fun m hm => hw m (by simp only [DataW.weightsEach, List.mem_append]; exact .inl hm))
    exact bytesOwn_c bs0 v0 c0 W hr0

/-- The statement. -/
theorem bytesOwn_holds : Rows.BytesOwnSaid :=
  OpenClaim.holds_of_wide 6 Try.f6 rfl rfl rfl rfl rfl rfl rfl ⟨rfl, rfl, rfl, rfl, rfl⟩ rfl rfl rfl rfl rfl (by kernel_rfl) Try.func6 (by kernel_rfl)
    (of_decide_eq_true (by kernel_rfl)) (by unfold Func.isWrapper; first | (rw [if_pos (by decide +kernel)]; kernel_rfl) | (rw [if_neg (by decide +kernel)]; exact ⟨rfl, rfl⟩))
    (fun os started H enc _ => bytesOwn_lifted os started H enc)
#print axioms bytesOwn_holds
end Go.Proofs.Ytfdndkempgnlcaa
