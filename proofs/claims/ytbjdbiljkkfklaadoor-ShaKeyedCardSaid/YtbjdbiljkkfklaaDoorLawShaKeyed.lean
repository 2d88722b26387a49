/- ShaKeyed of casematelaw03 returns true for whatever bytes ahead and rest; they read behind the call as before. No condition. -/
import Derived.Test.YtbjdbiljkkfklaaDoorLx
import Derived.Test.YtbjdbiljkkfklaaDoorTie
import Derived.Test.YtbjdbiljkkfklaaDoorCards
set_option linter.unusedSimpArgs false
set_option linter.unusedVariables false
namespace Go.Proofs.YtbjdbiljkkfklaaDoor
open Go Go.Kx
open Go.ChangeShapes Go.WideShapes Go.ChangeAt Go.RowKit
theorem sl38 : SlT Tryd.prog 38 23 1 24 := ⟨Tryd.underlying38, by kernel_rfl, by kernel_rfl, .slice none 0 0, by kernel_rfl, rfl⟩
set_option maxRecDepth 20000 in
set_option maxHeartbeats 4000000 in
theorem shaKeyed_c (va : Value) (k : List UInt8) (ca : Nat) (vb : Value) (q : List UInt8) (cb : Nat) (w : World) (hG : (glb 0).holds w) (hQ : tabQ.holds w) (hr_k : (rd va 1 k.length ca (bv k)).holds w) (hr_q : (rd vb 1 q.length cb (bv q)).holds w) : Calls Tryd.prog 5 #[va, vb] w fun e w' => e = .returned (.bool true) ∧ Mem w [] w' [] := by
  have hM : Mem w [] w [rd va 1 k.length ca (bv k), rd vb 1 q.length cb (bv q), glb 0, tabQ] := Mem.startR w (fun g hg => by
    simp only [List.mem_cons, List.not_mem_nil, or_false] at hg
    rcases hg with rfl | rfl | rfl | rfl
    · exact ⟨hr_k, rfl⟩
    · exact ⟨hr_q, rfl⟩
    · exact ⟨hG, rfl⟩
    · exact ⟨hQ, rfl⟩)
  refine f_enter 92 Tryd.func5 rfl rfl rfl ?_
  intro a hE
  replace hE : Env a 92 [(0, _), (1, _)] := hE
  refine wp_seq_k (fun K1 hK1 => ?_)
  refine wp_plain [true] rfl rfl ?_
  refine s_assign hE rfl rfl ?_; clear hE a; intro a hE
  refine q_nil ?_
  refine hK1 _ _ ?_
  refine wp_seq_k (fun K2 hK2 => ?_)
  refine wp_seq_k (fun K3 hK3 => ?_)
  refine wp_plain [true, true, false, false] rfl rfl ?_
  refine s_move hE rfl rfl ?_; clear hE a; intro a hE
  refine s_move hE rfl rfl ?_; clear hE a; intro a hE
  have ho13_0 := rd_one (hM.get 0 rfl)
  have ho13_1 := rd_one (hM.get 1 rfl)
  refine s_buildSlice (xs := [.tmp 11, .tmp 12]) ([va, vb]) hE hM sl38 rfl rfl rfl (by intro v hv; simp only [List.mem_cons, List.not_mem_nil, or_false] at hv; rcases hv with rfl | rfl; (rw [ho13_0.1]; rfl); (rw [ho13_1.1]; rfl)) (by first | (simp [ho13_0.1, ho13_1.1]; done) | (simp [ho13_0.1, ho13_1.1, Value.cells]; done)) rfl rfl rfl ?_; clear hE a; intro a v13 w1 hE hM'
  clear hM; have hM := hM'; clear hM'
  obtain ⟨cl1, hl1⟩ := own_rd (hM.get 0 rfl)
  refine s_call hE rfl Tryd.call16 (long_c _ _ [k, q] _ _ _ hl1 (rdv_cons (p := k) (hM.get 1 rfl) (rdv_cons (p := q) (hM.get 2 rfl) (rdv_nil _))) (by first | omega | assumption | (simp; done) | (simp; omega) | decide)) rfl ?_
  rintro e w2 ⟨rfl, hN⟩
  refine ⟨_, rfl, trivial, ?_⟩; clear hE a; intro a hE
  replace hM : Mem _ _ w2 [_, _, _, _, _] := hM.call0 hN trivial; clear hN
  refine q_nil ?_
  replace hE : Env a 92 [(0, _), (1, _), (4, _), (14, _)] := hE.sel [0, 1, 4, 14] rfl
  refine hK3 _ _ ?_
  refine hE.split 14 rfl (fun hb14 hE' => ?_) (fun hb14 hE' => ?_)
  · replace hE := hE'; clear hE'
    refine wp_cond_true (hE.eval rfl) ?_
    refine wp_seq_k (fun K4 hK4 => ?_)
    refine wp_plain [false, true] rfl rfl ?_
    refine s_call hE rfl Tryd.call17 (awake3_c  _ (hM.get 3 rfl) (hM.get 4 rfl)) rfl ?_
    rintro e w3 ⟨rfl, hN⟩
    refine ⟨_, rfl, trivial, ?_⟩; clear hE a; intro a hE
    replace hM : Mem _ _ w3 [_, _, _, _, _] := hM.call0 hN trivial; clear hN
    refine s_assign hE rfl rfl ?_; clear hE a; intro a hE
    refine q_nil ?_
    replace hE : Env a 92 [(0, _), (1, _), (4, _), (14, _)] := hE.sel [0, 1, 4, 14] rfl
    refine hK4 _ _ ?_
    refine wp_ret ?_
    refine q_then_r ?_
    refine f_ret1 hE rfl rfl ?_
    exact ⟨(by first | rfl | (simp; done)), hM.pick [] rfl⟩
  · replace hE := hE'; clear hE'
    have hlk : k.length ≤ 3000 := longP_no hb14 0 (Nat.succ_pos _)
    have hlq : q.length ≤ 3000 := longP_no hb14 1 (Nat.lt_succ_self 1)
    refine wp_cond_false (hE.eval rfl) ?_
    refine wp_skip ?_
    refine hK2 _ _ ?_
    refine wp_seq_k (fun K4 hK4 => ?_)
    refine wp_plain [false, true, false, false, true, false, true, true] rfl rfl ?_
    refine s_buildSlice (xs := []) ([]) hE hM sl23 rfl rfl rfl (by intro v hv; cases hv) rfl rfl rfl rfl ?_; clear hE a; intro a v16 w3 hE hM'
    clear hM; have hM := hM'; clear hM'
    replace hM := hM.ownEq (m' := ([] : List UInt8).length) (cs' := bv ([] : List UInt8)) rfl rfl
    refine s_move hE rfl rfl ?_; clear hE a; intro a hE
    refine s_append hE rfl rfl hM sl23 (Src.rd Tryd.underlying23 (hM.get 2 rfl) (bv_one _)) (len47 (by have hl_x : ([] : List UInt8).length = 0 := (by first | (simp; done) | (simp [*]; done) | (simp; omega)); first | omega | (simp; done) | (simp; omega))) (by have hl_x : ([] : List UInt8).length = 0 := (by first | (simp; done) | (simp [*]; done) | (simp; omega)); first | omega | (simp; done) | (simp; omega)) (by intro X h; cases h) rfl ?_; clear hE a; intro a v18 w4 hE hM'; clear hM; have hM := hM'; clear hM'
    replace hM := Mem.ownNil (q := k) hM rfl (by first | rfl | (simp; done))
    refine s_buildSlice (xs := []) ([]) hE hM sl23 rfl rfl rfl (by intro v hv; cases hv) rfl rfl rfl rfl ?_; clear hE a; intro a v19 w5 hE hM'
    clear hM; have hM := hM'; clear hM'
    replace hM := hM.ownEq (m' := ([] : List UInt8).length) (cs' := bv ([] : List UInt8)) rfl rfl
    refine s_move hE rfl rfl ?_; clear hE a; intro a hE
    refine s_append hE rfl rfl hM sl23 (Src.rd Tryd.underlying23 (hM.get 4 rfl) (bv_one _)) (len47 (by have hl_x : ([] : List UInt8).length = 0 := (by first | (simp; done) | (simp [*]; done) | (simp; omega)); first | omega | (simp; done) | (simp; omega))) (by have hl_x : ([] : List UInt8).length = 0 := (by first | (simp; done) | (simp [*]; done) | (simp; omega)); first | omega | (simp; done) | (simp; omega)) (by intro X h; cases h) rfl ?_; clear hE a; intro a v21 w6 hE hM'; clear hM; have hM := hM'; clear hM'
    replace hM := Mem.ownNil (q := q) hM rfl (by first | rfl | (simp; done))
    refine s_assign hE rfl rfl ?_; clear hE a; intro a hE
    refine s_assign hE rfl rfl ?_; clear hE a; intro a hE
    refine q_nil ?_
    replace hE : Env a 92 [(0, _), (1, _), (4, _), (5, _), (6, _), (14, _)] := hE.sel [0, 1, 4, 5, 6, 14] rfl
    refine hK4 _ _ ?_
    refine wp_seq_k (fun K5 hK5 => ?_)
    refine wp_plain [true, false, true, true, true, false, false, true] rfl rfl ?_
    refine s_move hE rfl rfl ?_; clear hE a; intro a hE
    obtain ⟨cq2, hq2⟩ := own_rd (hM.get 1 rfl)
    refine s_call hE rfl Tryd.call18 (pahead_c _ k _ _ (hM.get 5 rfl) hq2 (by first | omega | (simp; done) | (simp; omega))) rfl ?_
    rintro e w7 ⟨rfl, hN⟩
    refine ⟨_, rfl, trivial, ?_⟩; clear hE a; intro a hE
    replace hM : Mem _ _ w7 [_, _, _, _, _, _, _] := hM.call0 hN trivial; clear hN
    refine s_move hE rfl rfl ?_; clear hE a; intro a hE
    refine s_extract hE rfl rfl rfl ?_; clear hE a; intro a hE
    refine s_extract hE rfl rfl rfl ?_; clear hE a; intro a hE
    refine s_alloc [8, 1, 1] hE hM zero30 rfl rfl ?_; clear hE a; intro a b7 w8 hE hM'
    clear hM; have hM := hM'; clear hM'
    replace hM := hM.resplit (ss' := [zeroP]) (ns' := [10]) (by simp [zeroP]) (by simp [zeroP])
    refine s_storeSeg 0 (vs := pfL (pfA k)) hE rfl rfl hM rfl sz30 (pfL_length (pfA_ok (by first | omega | (simp; done) | (simp; omega)))) (pfL_one _) rfl (by simp [zeroP]) rfl (by intro X h; cases h) ?_; intro w9 hM'; clear hM; have hM := hM'; clear hM'
    simp only [List.set_cons_zero] at hM
    refine s_assign hE rfl rfl ?_; clear hE a; intro a hE
    refine q_nil ?_
    replace hE : Env a 92 [(0, _), (1, _), (4, _), (5, _), (6, _), (7, _), (8, _), (14, _)] := hE.sel [0, 1, 4, 5, 6, 7, 8, 14] rfl
    refine hK5 _ _ ?_
    refine wp_seq_k (fun K6 hK6 => ?_)
    refine wp_plain [false, true, false, true, false, true] rfl rfl ?_
    refine s_buildSlice (xs := []) ([]) hE hM sl23 rfl rfl rfl (by intro v hv; cases hv) rfl rfl rfl rfl ?_; clear hE a; intro a v27 w10 hE hM'
    clear hM; have hM := hM'; clear hM'
    replace hM := hM.ownEq (m' := ([] : List UInt8).length) (cs' := bv ([] : List UInt8)) rfl rfl
    refine s_move hE rfl rfl ?_; clear hE a; intro a hE
    refine s_append hE rfl rfl hM sl23 (Src.rd Tryd.underlying23 (hM.get 5 rfl) (bv_one _)) (len47 (by have hl_x : ([] : List UInt8).length = 0 := (by first | (simp; done) | (simp [*]; done) | (simp; omega)); first | omega | (simp; done) | (simp; omega))) (by have hl_x : ([] : List UInt8).length = 0 := (by first | (simp; done) | (simp [*]; done) | (simp; omega)); first | omega | (simp; done) | (simp; omega)) (by intro X h; cases h) rfl ?_; clear hE a; intro a v29 w11 hE hM'; clear hM; have hM := hM'; clear hM'
    replace hM := Mem.ownNil (q := k) hM rfl (by first | rfl | (simp; done))
    refine s_move hE rfl rfl ?_; clear hE a; intro a hE
    refine s_append hE rfl rfl hM sl23 (Src.rd Tryd.underlying23 (hM.get 6 rfl) (bv_one _)) (len47 (by first | omega | (simp; done) | (simp; omega))) (by first | omega | (simp; done) | (simp; omega)) (by intro X h; cases h) rfl ?_; clear hE a; intro a v31 w12 hE hM'; clear hM; have hM := hM'; clear hM'
    replace hM := Mem.ownApp (p := k) (q := q) hM (by first | rfl | (simp; done))
    refine s_assign hE rfl rfl ?_; clear hE a; intro a hE
    refine q_nil ?_
    replace hE : Env a 92 [(0, _), (1, _), (4, _), (5, _), (6, _), (7, _), (8, _), (9, _), (14, _)] := hE.sel [0, 1, 4, 5, 6, 7, 8, 9, 14] rfl
    refine hK6 _ _ ?_
    refine wp_seq_k (fun K7 hK7 => ?_)
    refine wp_plain [true, false, false, false] rfl rfl ?_
    refine s_move hE rfl rfl ?_; clear hE a; intro a hE
    obtain ⟨cq3, hq3⟩ := own_rd (hM.get 0 rfl)
    refine s_call hE rfl Tryd.call24 (rsha_c _ (k ++ q) _ _ hq3 (by have hl_ : (k ++ q).length = k.length + q.length := (by first | (simp; done) | (simp [*]; done) | (simp; omega)); first | omega | (simp; done) | (simp; omega))) rfl ?_
    rintro e w13 ⟨rfl, hN⟩
    refine ⟨_, rfl, trivial, ?_⟩; clear hE a; intro a hE
    replace hM : Mem _ _ w13 [_, _, _, _, _, _, _, _, _] := hM.call0 hN trivial; clear hN
    refine s_alloc [32] hE hM zero35 rfl rfl ?_; clear hE a; intro a b10 w14 hE hM'
    clear hM; have hM := hM'; clear hM'
    refine s_storeSeg 0 hE rfl rfl hM rfl sz35 ((bv_length _).trans (shaW_length _)) (bv_one _) rfl ((bv_length _).trans (by first | (simp; done) | (simp [*]; done) | (simp; omega))) rfl (by intro X h; cases h) ?_; intro w15 hM'; clear hM; have hM := hM'; clear hM'
    simp only [List.set_cons_zero, List.set_cons_succ] at hM
    refine q_nil ?_
    replace hE : Env a 92 [(0, _), (1, _), (4, _), (5, _), (6, _), (7, _), (8, _), (9, _), (10, _), (14, _)] := hE.sel [0, 1, 4, 5, 6, 7, 8, 9, 10, 14] rfl
    refine hK7 _ _ ?_
    refine wp_seq_k (fun K8 hK8 => ?_)
    refine wp_seq_k (fun K9 hK9 => ?_)
    refine wp_drawnM hM (by kernel_rfl) (fun _ => False) [(0, true), (2, true), (1, false), (3, true)] [(1, [(3, 1)])] (by kernel_rfl) rfl ?_
    intro w16 hM' hww16; clear hM; have hM := hM'; clear hM'
    refine s_move hE rfl rfl ?_; clear hE a; intro a hE
    refine s_loadN hE rfl (hM.get 0 rfl) row35 rfl (by intro X h; cases h; simp) rfl ?_; clear hE a; intro a hE
    obtain ⟨cq4, hq4⟩ := own_rd (hM.get 1 rfl)
    refine s_call hE rfl Tryd.call20 (sha_c _ (k ++ q) _ _ (hM.get 8 rfl) hq4 (by have hl_ : (k ++ q).length = k.length + q.length := (by first | (simp; done) | (simp [*]; done) | (simp; omega)); first | omega | (simp; done) | (simp; omega))) rfl ?_
    rintro e w17 ⟨rfl, hN⟩
    refine ⟨_, rfl, hN.sta0 _, ?_⟩; clear hE a; intro a hE
    replace hM : Mem _ _ w17 [_, _, _, _, _, _, _, _, _, _] := hM.call0 hN trivial; clear hN
    refine s_bin hE rfl rfl (eqa35 (shaW_length _) (shaW_length _)).2 rfl ?_; clear hE a; intro a hE
    refine q_nil ?_
    replace hE : Env a 92 [(0, _), (1, _), (4, _), (5, _), (6, _), (7, _), (8, _), (9, _), (10, _), (14, _), (37, _)] := hE.sel [0, 1, 4, 5, 6, 7, 8, 9, 10, 14, 37] rfl
    refine hK9 _ _ ?_
    replace hE := hE.cast 37 rfl (show _ = Value.bool false from (congrArg Value.bool (by simp)))
    refine wp_cond_false (hE.eval rfl) ?_
    refine wp_skip ?_
    refine hK8 _ _ ?_
    refine wp_seq_k (fun K10 hK10 => ?_)
    refine wp_seq_k (fun K11 hK11 => ?_)
    refine wp_plain [true, true, true, true] rfl rfl ?_
    refine s_move hE rfl rfl ?_; clear hE a; intro a hE
    refine s_len hE rfl Tryd.underlying23 (rd_slice (hM.get 6 rfl)) rfl ?_; clear hE a; intro a hE
    refine s_bin hE rfl rfl (bin_rem_nat (m := k.length) (s := 64) (by decide)) rfl ?_; clear hE a; intro a hE
    refine s_bin hE rfl rfl bin_neq rfl ?_; clear hE a; intro a hE
    refine q_nil ?_
    replace hE : Env a 92 [(0, _), (1, _), (4, _), (5, _), (6, _), (7, _), (8, _), (9, _), (10, _), (14, _), (37, _), (41, _)] := hE.sel [0, 1, 4, 5, 6, 7, 8, 9, 10, 14, 37, 41] rfl
    refine hK11 _ _ ?_
    refine hE.split 41 rfl (fun hb41 hE' => ?_) (fun hb41 hE' => ?_)
    · replace hE := hE'; clear hE'
      replace hb41 := of_decide_eq_false (not_true hb41)
      replace hb41 : ¬ ((k.length % 64) = 0) := by omega
      refine wp_cond_true (hE.eval rfl) ?_
      refine wp_seq_k (fun K12 hK12 => ?_)
      refine wp_plain [true, true, true, true, false, true, true, true, true, true, false, true, true, true, true, false, true, true] rfl rfl ?_
      refine s_move hE rfl rfl ?_; clear hE a; intro a hE
      refine s_bin hE rfl rfl bin_eql rfl ?_; clear hE a; intro a hE
      refine s_move hE rfl rfl ?_; clear hE a; intro a hE
      replace hE := hE.cast 44 rfl (show _ = Value.bool true from (congrArg Value.bool (decide_eq_true (by rw [pfE_two hb41]; rfl))))
      refine g_yes hE rfl rfl ?_
      refine s_loadN hE rfl (hM.get 2 rfl) row30 rfl (by intro X h; cases h) rfl ?_; clear hE a; intro a hE
      refine g_yes hE rfl rfl ?_
      refine s_call hE rfl Tryd.call23 (psize_c (pfA k) _ (pfA_ok (by first | omega | (simp; done) | (simp; omega)))) rfl ?_
      rintro e w18 ⟨rfl, hN⟩
      refine ⟨_, rfl, trivial, ?_⟩; clear hE a; intro a hE
      replace hM : Mem _ _ w18 [_, _, _, _, _, _, _, _, _, _] := hM.call0 hN trivial; clear hN
      refine g_yes hE rfl rfl ?_
      refine s_bin hE rfl rfl bin_eql rfl ?_; clear hE a; intro a hE
      refine s_pickt hE rfl rfl rfl ?_; clear hE a; intro a hE
      refine s_move hE rfl rfl ?_; clear hE a; intro a hE
      replace hE := hE.cast 49 rfl (show _ = Value.bool true from (congrArg Value.bool (decide_eq_true (by rw [pfA_none hb41]; rfl))))
      refine g_yes hE rfl rfl ?_
      refine s_loadN hE rfl (hM.get 2 rfl) row30 rfl (by intro X h; cases h) rfl ?_; clear hE a; intro a hE
      refine g_yes hE rfl rfl ?_
      refine s_move hE rfl rfl ?_; clear hE a; intro a hE
      refine g_yes hE rfl rfl ?_
      obtain ⟨cq5, hq5⟩ := own_rd (hM.get 3 rfl)
      refine s_call hE rfl Tryd.call19 (psums_c (pfA k) _ q _ _ (hM.get 8 rfl) hq5 (pfA_ok (by first | omega | (simp; done) | (simp; omega))) (by first | omega | (simp; done) | (simp; omega))) rfl ?_
      rintro e w19 ⟨rfl, hN⟩
      refine ⟨_, rfl, trivial, ?_⟩; clear hE a; intro a hE
      replace hM : Mem _ _ w19 [_, _, _, _, _, _, _, _, _, _] := hM.call0 hN trivial; clear hN
      refine g_yes hE rfl rfl ?_
      refine s_build (r := .agg (bv (List.replicate 32 (0 : UInt8))).toArray) _ hE rfl (fun w => by kernel_rfl) rfl ?_; clear hE a; intro a hE
      refine g_yes hE rfl rfl ?_
      refine s_bin hE rfl rfl (eqa35 (pfS_len ..) (by first | (simp; done) | (simp [*]; done) | (simp; omega))).1 rfl ?_; clear hE a; intro a hE
      refine s_pickt hE rfl rfl rfl ?_; clear hE a; intro a hE
      refine s_move hE rfl rfl ?_; clear hE a; intro a hE
      replace hE := hE.cast 56 rfl (show _ = Value.bool true from (congrArg Value.bool (decide_eq_true (by rw [pfA_none hb41]; rfl))))
      refine g_yes hE rfl rfl ?_
      refine s_call hE rfl Tryd.call17 (awake3_c  _ (hM.get 8 rfl) (hM.get 9 rfl)) rfl ?_
      rintro e w20 ⟨rfl, hN⟩
      refine ⟨_, rfl, trivial, ?_⟩; clear hE a; intro a hE
      replace hM : Mem _ _ w20 [_, _, _, _, _, _, _, _, _, _] := hM.call0 hN trivial; clear hN
      refine s_pickt hE rfl rfl rfl ?_; clear hE a; intro a hE
      refine s_assign hE rfl rfl ?_; clear hE a; intro a hE
      refine q_nil ?_
      replace hE : Env a 92 [(0, _), (1, _), (4, _), (5, _), (6, _), (7, _), (8, _), (9, _), (10, _), (14, _), (37, _), (41, _)] := hE.sel [0, 1, 4, 5, 6, 7, 8, 9, 10, 14, 37, 41] rfl
      refine hK12 _ _ ?_
      refine wp_ret ?_
      refine q_then_r ?_
      refine f_ret1 hE rfl rfl ?_
      exact ⟨(by first | rfl | (simp; done)), hM.pick [] rfl⟩
    · replace hE := hE'; clear hE'
      replace hb41 := of_decide_eq_true (not_false' hb41)
      replace hb41 : (k.length % 64) = 0 := by omega
      refine wp_cond_false (hE.eval rfl) ?_
      refine wp_skip ?_
      refine hK10 _ _ ?_
      refine wp_seq_k (fun K12 hK12 => ?_)
      refine wp_drawnM hM (by kernel_rfl) (fun _ => False) [(0, true), (1, true), (2, true), (3, true), (5, true), (6, true), (4, false), (7, true), (8, true), (9, true), (10, true), (11, true), (13, true), (12, false), (14, true), (15, true), (16, true), (17, true), (18, true), (19, true), (20, true), (21, true), (22, true), (23, true), (24, true), (25, true), (26, true), (27, true), (28, true), (29, true), (30, true), (31, false), (32, true), (33, true)] [(4, [(7, 4), (8, 7), (9, 4), (10, 9), (11, 9), (13, 9), (12, 9), (14, 9), (15, 9), (16, 12), (17, 16), (18, 16), (19, 16), (20, 16), (21, 16), (22, 16), (23, 16), (24, 23), (25, 24), (26, 23), (27, 26), (28, 25), (29, 28), (30, 29), (31, 30), (32, 30), (33, 4)]), (12, [(14, 12), (15, 14), (16, 12), (17, 16), (18, 16), (19, 16), (20, 16), (21, 16), (22, 16), (23, 16), (24, 23), (25, 24), (26, 23), (27, 26), (28, 25), (29, 28), (30, 29), (31, 30), (32, 30), (33, 12)]), (31, [(32, 31), (33, 31)])] (by kernel_rfl) rfl ?_
      intro w18 hM' hww18; clear hM; have hM := hM'; clear hM'
      refine s_move hE rfl rfl ?_; clear hE a; intro a hE
      refine s_bin hE rfl rfl bin_eql rfl ?_; clear hE a; intro a hE
      refine s_move hE rfl rfl ?_; clear hE a; intro a hE
      replace hE := hE.cast 61 rfl (show _ = Value.bool true from (congrArg Value.bool (decide_eq_true (by rw [pfE_zero hb41]; rfl))))
      refine g_yes hE rfl rfl ?_
      refine s_loadN hE rfl (hM.get 2 rfl) row30 rfl (by intro X h; cases h; simp) rfl ?_; clear hE a; intro a hE
      refine g_yes hE rfl rfl ?_
      refine s_move hE rfl rfl ?_; clear hE a; intro a hE
      refine g_yes hE rfl rfl ?_
      refine s_len hE rfl Tryd.underlying23 (rd_slice (hM.get 6 rfl)) rfl ?_; clear hE a; intro a hE
      refine g_yes hE rfl rfl ?_
      refine s_call hE rfl Tryd.call23 (psize_c (pfA k) _ (pfA_ok (by first | omega | (simp; done) | (simp; omega)))) rfl ?_
      rintro e w19 ⟨rfl, hN⟩
      refine ⟨_, rfl, hN.sta0 _, ?_⟩; clear hE a; intro a hE
      replace hM : Mem _ _ w19 [_, _, _, _, _, _, _, _, _, _] := hM.call0 hN trivial; clear hN
      refine g_yes hE rfl rfl ?_
      refine s_bin hE rfl rfl bin_eql rfl ?_; clear hE a; intro a hE
      refine s_pickt hE rfl rfl rfl ?_; clear hE a; intro a hE
      refine s_move hE rfl rfl ?_; clear hE a; intro a hE
      replace hE := hE.cast 68 rfl (show _ = Value.bool true from (congrArg Value.bool (decide_eq_true (by rw [pfN_A hb41]))))
      refine g_yes hE rfl rfl ?_
      refine s_loadN hE rfl (hM.get 2 rfl) row30 rfl (by intro X h; cases h; simp) rfl ?_; clear hE a; intro a hE
      refine g_yes hE rfl rfl ?_
      refine s_move hE rfl rfl ?_; clear hE a; intro a hE
      refine g_yes hE rfl rfl ?_
      refine s_loadN hE rfl (hM.get 0 rfl) row35 rfl (by intro X h; cases h; simp) rfl ?_; clear hE a; intro a hE
      refine g_yes hE rfl rfl ?_
      obtain ⟨cq6, hq6⟩ := own_rd (hM.get 3 rfl)
      refine s_call hE rfl Tryd.call19 (psums_c (pfA k) _ q _ _ (hM.get 8 rfl) hq6 (pfA_ok (by first | omega | (simp; done) | (simp; omega))) (by first | omega | (simp; done) | (simp; omega))) rfl ?_
      rintro e w20 ⟨rfl, hN⟩
      refine ⟨_, rfl, hN.sta0 _, ?_⟩; clear hE a; intro a hE
      replace hM : Mem _ _ w20 [_, _, _, _, _, _, _, _, _, _] := hM.call0 hN trivial; clear hN
      refine g_yes hE rfl rfl ?_
      refine s_bin hE rfl rfl (eqa35 (pfS_len ..) (shaW_length _)).1 rfl ?_; clear hE a; intro a hE
      refine s_pickt hE rfl rfl rfl ?_; clear hE a; intro a hE
      refine s_move hE rfl rfl ?_; clear hE a; intro a hE
      replace hE := hE.cast 75 rfl (show _ = Value.bool true from (congrArg Value.bool (decide_eq_true (pfS_A hb41))))
      refine g_yes hE rfl rfl ?_
      refine s_move hE rfl rfl ?_; clear hE a; intro a hE
      refine g_yes hE rfl rfl ?_
      obtain ⟨cs77, hs77⟩ := own_rd (hM.get 4 rfl)
      refine s_toStr hE rfl Tryd.underlying23 Tryd.underlying5 Tryd.underlying9 hs77 (by intro X h; cases h; simp) rfl ?_; clear hE a; intro a hE
      refine g_yes hE rfl rfl ?_
      refine s_move hE rfl rfl ?_; clear hE a; intro a hE
      refine g_yes hE rfl rfl ?_
      refine s_toStr hE rfl Tryd.underlying23 Tryd.underlying5 Tryd.underlying9 (hM.get 6 rfl) (by intro X h; cases h; simp) rfl ?_; clear hE a; intro a hE
      refine g_yes hE rfl rfl ?_
      refine s_bin hE rfl rfl bins_str.1 rfl ?_; clear hE a; intro a hE
      refine s_pickt hE rfl rfl rfl ?_; clear hE a; intro a hE
      refine s_move hE rfl rfl ?_; clear hE a; intro a hE
      replace hE := hE.cast 82 rfl (show _ = Value.bool true from (congrArg Value.bool (by simp)))
      refine g_yes hE rfl rfl ?_
      refine s_move hE rfl rfl ?_; clear hE a; intro a hE
      refine g_yes hE rfl rfl ?_
      obtain ⟨cs84, hs84⟩ := own_rd (hM.get 3 rfl)
      refine s_toStr hE rfl Tryd.underlying23 Tryd.underlying5 Tryd.underlying9 hs84 (by intro X h; cases h; simp) rfl ?_; clear hE a; intro a hE
      refine g_yes hE rfl rfl ?_
      refine s_move hE rfl rfl ?_; clear hE a; intro a hE
      refine g_yes hE rfl rfl ?_
      refine s_toStr hE rfl Tryd.underlying23 Tryd.underlying5 Tryd.underlying9 (hM.get 7 rfl) (by intro X h; cases h; simp) rfl ?_; clear hE a; intro a hE
      refine g_yes hE rfl rfl ?_
      refine s_bin hE rfl rfl bins_str.1 rfl ?_; clear hE a; intro a hE
      refine s_pickt hE rfl rfl rfl ?_; clear hE a; intro a hE
      refine s_move hE rfl rfl ?_; clear hE a; intro a hE
      replace hE := hE.cast 89 rfl (show _ = Value.bool true from (congrArg Value.bool (by simp)))
      refine g_yes hE rfl rfl ?_
      refine s_call hE rfl Tryd.call17 (awake3_c  _ (hM.get 8 rfl) (hM.get 9 rfl)) rfl ?_
      rintro e w21 ⟨rfl, hN⟩
      refine ⟨_, rfl, hN.sta0 _, ?_⟩; clear hE a; intro a hE
      replace hM : Mem _ _ w21 [_, _, _, _, _, _, _, _, _, _] := hM.call0 hN trivial; clear hN
      refine s_pickt hE rfl rfl rfl ?_; clear hE a; intro a hE
      refine s_assign hE rfl rfl ?_; clear hE a; intro a hE
      refine q_nil ?_
      replace hE : Env a 92 [(0, _), (1, _), (4, _), (5, _), (6, _), (7, _), (8, _), (9, _), (10, _), (14, _), (37, _), (41, _)] := hE.sel [0, 1, 4, 5, 6, 7, 8, 9, 10, 14, 37, 41] rfl
      refine hK12 _ _ ?_
      refine wp_ret ?_
      refine f_ret1 hE rfl rfl ?_
      exact ⟨(by first | rfl | (simp; done)), hM.pick [] rfl⟩
set_option maxRecDepth 100000 in
theorem shaKeyed_lifted (os : Os) (started : os.Started) (H : Type) (enc : TypeId × Value → H) :
    ReturnsInHanded {} Tryd.checked os 5 .any (fun w args => (Rows.shaKeyedSpec.pre enc Tryd.prog Tryd.f5 [] false w args ∧ laidMetH Tryd.prog Rows.shaKeyedRow.laid w) ∧ sizedMet enc Tryd.prog Tryd.f5 (OpenSpec.ofChange Rows.shaKeyedSpec) false w args) (Rows.shaKeyedSpec.post enc Tryd.prog Tryd.f5 false true false false) := by
  refine law_liftedL (C := Tryd.checked) (fn := Tryd.f5) (l := Rows.shaKeyedRow.laid) (by kernel_rfl) started (by kernel_rfl) Tryd.func5 rfl (fun ds hl => ?_) rfl Tryd.underlying4 (by kernel_rfl) (of_decide_eq_true (by kernel_rfl)) (by kernel_rfl)
    (ChangeSpec.witness_shaped (enc := enc) (C := Tryd.checked) (os := os) (X := fun w _ => laidMetH Tryd.prog Rows.shaKeyedRow.laid w) false (World.laidAll Tryd.prog os Rows.shaKeyedRow.laid) #[.slice none 0 0, .slice none 0 0] 8 (World.laidAll_os _ _ _) (World.shaped_of_ZipB (by kernel_rfl) (by kernel_rfl)) (by kernel_rfl) (by kernel_rfl) (by kernel_rfl) (by rw [MakeChecks.laidMetH_plain _ _ _ (by kernel_rfl)]; exact laidMet_laidAll _ (by kernel_rfl) (by kernel_rfl))) ?_
  · rw [Tryd.params5] at hl
    match ds, hl with
    | [_, _], _ => rfl
  · intro W base args ds ps hval hA hw hL
    have hG := glb_of_laid (P := Tryd.prog) (g := 0) (t := 91) (e := 26) (by kernel_rfl) (by kernel_rfl) Tryd.underlying91 Tryd.underlying26 (by kernel_rfl) (by kernel_rfl) (by kernel_rfl) (show laidMet Tryd.prog (_ :: _) W from (laidMet_tail (laidMet_tail (laidMet_tail hL))))
    have hQ : tabQ.holds W := cells_of_laid (P := Tryd.prog) (g := 5) (t := 22) (e := 5) (n := 64) (by kernel_rfl) (by kernel_rfl) Tryd.underlying22 Tryd.underlying5 (by kernel_rfl) (by kernel_rfl) (by kernel_rfl) (show laidMet Tryd.prog (_ :: _) W from (laidMet_tail hL))
    rw [Tryd.params5] at hA hval hw
    obtain ⟨v0, vs0, d0, ds0, p0, q0, hargs, rfl, rfl, h0, r0⟩ := trodAll_cons hA
    obtain ⟨v1, vs1, d1, ds1, p1, q1, rfl, rfl, rfl, h1, r1⟩ := trodAll_cons r0
    obtain ⟨rfl, rfl, rfl⟩ := trodAll_nil r1
    obtain rfl : args = #[v0, v1] := by cases args; simp_all
    obtain ⟨bs0, c0, hr0, hb0⟩ := arg_bytes Tryd.underlying23 Tryd.underlying5 (by kernel_rfl) (by kernel_rfl) (hval 0 23 v0 rfl rfl) h0 (fun m hm => hw m (by simp only [DataW.weightsEach, List.mem_append]; exact .inl hm))
    obtain ⟨bs1, c1, hr1, hb1⟩ := arg_bytes Tryd.underlying23 Tryd.underlying5 (by kernel_rfl) (by kernel_rfl) (hval 1 23 v1 rfl rfl) h1 (fun m hm => hw m (by simp only [DataW.weightsEach, List.mem_append]; exact .inr (.inl hm)))
    exact shaKeyed_c v0 bs0 c0 v1 bs1 c1 W hG hQ hr0 hr1

/-- The row's statement. -/
theorem shaKeyed_row : Rows.ShaKeyedSaid :=
  OpenClaim.holds_of_wide 5 Tryd.f5 rfl rfl rfl rfl rfl rfl rfl ⟨rfl, rfl, rfl, rfl, rfl⟩ rfl rfl rfl rfl rfl (by kernel_rfl) Tryd.func5 (by kernel_rfl)
    (of_decide_eq_true (by kernel_rfl)) (by unfold Func.isWrapper; first | (rw [if_pos (by decide +kernel)]; kernel_rfl) | (rw [if_neg (by decide +kernel)]; exact ⟨rfl, rfl⟩))
    (fun os started H enc _ => shaKeyed_lifted os started H enc)

/-- The statement: the row, its listed variable tied to the program's text. -/
theorem shaKeyed_holds : Rows.ShaKeyedCardSaid :=
  Claim7.holds_tied_plain_at .later [] [.data, .data, .data, .data] true (true, "91cb5901f707df670105d5a20baa4ed90d479b7ccd219857a5a06152428abcb6") true
    shaKeyed_row (fun _ h => by cases h) (by kernel_rfl) (fun _ h => by cases h) shaKeyed_row_tie rfl ⟨rfl, rfl⟩ (by kernel_rfl) rfl
    (fun f fn hf hfn => by
      obtain rfl : f = 5 := Option.some.inj ((show Tryd.prog.funcNamed "casemate/casematelaw03.ShaKeyed" = some 5 by kernel_rfl).symm.trans hf) |>.symm
      obtain rfl : fn = Tryd.f5 := (Option.some.inj (Tryd.func5.symm.trans hfn)).symm
      exact ⟨by kernel_rfl, fun j t ht => by
        rw [Tryd.params5] at ht
        have h : t ∈ [23, 23] := by
          rcases j with _ | _ | j
          · simp at ht; simp [ht]
          · simp at ht; simp [ht]
          · simp at ht
        simp only [List.mem_cons, List.not_mem_nil, or_false] at h
        rcases h with rfl | rfl
        · exact (show Tryd.prog.wantsStandIn 23 = false by kernel_rfl)
        · exact (show Tryd.prog.wantsStandIn 23 = false by kernel_rfl)⟩)
    (by kernel_rfl)
#print axioms shaKeyed_holds
end Go.Proofs.YtbjdbiljkkfklaaDoor
