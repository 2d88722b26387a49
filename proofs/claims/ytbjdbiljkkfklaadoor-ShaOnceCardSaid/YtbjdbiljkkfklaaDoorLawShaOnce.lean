/- ShaOnce of casematelaw03 returns true for whatever bytes and rests; they read behind the call as before. No condition. -/
import Derived.Test.YtbjdbiljkkfklaaDoorLx
import Derived.Test.YtbjdbiljkkfklaaDoorTie
import Derived.Test.YtbjdbiljkkfklaaDoorCards
set_option linter.unusedSimpArgs false
set_option linter.unusedVariables false
namespace Go.Proofs.YtbjdbiljkkfklaaDoor
open Go Go.Kx
open Go.ChangeShapes Go.WideShapes Go.ChangeAt Go.RowKit
theorem sl38 : SlT Tryd.prog 38 23 1 24 := ⟨Tryd.underlying38, by kernel_rfl, by kernel_rfl, .slice none 0 0, by kernel_rfl, rfl⟩
theorem whole_c (v : Value) (bs : List UInt8) (c : Nat) (w : World) (hr : (rd v 1 bs.length c (bv bs)).holds w) (hl : bs.length ≤ 1000000) : Calls Tryd.prog 21 #[v] w fun e w' => ∃ v' c', e = .returned v' ∧ (rd v' 1 (bs.take (bs.length / 64 * 64)).length c' (bv (bs.take (bs.length / 64 * 64)))).holds w' ∧ (∀ x, x ∈ rdB v' c' → x ∈ rdB v c) ∧ Mem w [] w' [] := by
  have hM : Mem w [] w [rd v 1 bs.length c (bv bs)] := Mem.startR w (fun g hg => by
    simp only [List.mem_cons, List.not_mem_nil, or_false] at hg
    rcases hg with rfl
    exact ⟨hr, rfl⟩)
  refine f_enter 9 Tryd.func21 rfl rfl rfl ?_
  intro a hE
  replace hE : Env a 9 [(0, _)] := hE
  refine wp_seq_k (fun K1 hK1 => ?_)
  refine wp_plain [true] rfl rfl ?_
  refine s_assign hE rfl rfl ?_; clear hE a; intro a hE
  refine q_nil ?_
  refine hK1 _ _ ?_
  refine wp_seq_k (fun K2 hK2 => ?_)
  refine wp_plain [true, true, true, true, true, true, true] rfl rfl ?_
  refine s_move hE rfl rfl ?_; clear hE a; intro a hE
  refine s_move hE rfl rfl ?_; clear hE a; intro a hE
  refine s_len hE rfl Tryd.underlying23 (rd_slice (hM.get 0 rfl)) rfl ?_; clear hE a; intro a hE
  refine s_bin hE rfl rfl (bin_quo_nat (m := bs.length) (s := 64) (by decide) (wrap_i64 (by omega) (by omega))) rfl ?_; clear hE a; intro a hE
  refine s_bin hE rfl rfl (show Bin _ _ _ _ _ (.int .i64 (((bs.length / 64) * 64 : Nat) : Int)) from bin_mul (by rw [wrap_i64 (by omega) (by omega)]; omega)) rfl ?_; clear hE a; intro a hE
  have hcap8 := rd_len (hM.get 0 rfl)
  refine s_slice (l := 0) (h := (bs.length / 64) * 64) (mx' := c) hE rfl (hM.get 0 rfl) slt23 rfl ⟨_, rfl⟩ rfl (by simp) (by first | omega | assumption | (simp; done) | (simp; omega) | decide) (by first | omega | assumption | (simp; done) | (simp; omega) | decide) (by first | omega | assumption | (simp; done) | (simp; omega) | decide) (by first | omega | assumption | (simp; done) | (simp; omega) | decide) rfl ?_; clear hE a; intro a v8 hE hr8 hvb8
  replace hr8 : (rd v8 1 (bs.take ((bs.length / 64) * 64)).length (c - 0) (bv (bs.take ((bs.length / 64) * 64)))).holds _ := rd_take (by first | omega | assumption | (simp; done) | (simp; omega) | decide) hr8
  replace hM := hM.addPart 0 rfl hr8 hvb8; clear hr8
  refine s_assign hE rfl rfl ?_; clear hE a; intro a hE
  refine q_nil ?_
  replace hE : Env a 9 [(2, _)] := hE.sel [2] rfl
  refine hK2 _ _ ?_
  refine wp_ret ?_
  refine f_ret1 hE rfl rfl ?_
  exact ⟨_, _, rfl, hM.get 0 rfl, hvb8, hM.nil⟩
set_option maxRecDepth 20000 in
set_option maxHeartbeats 4000000 in
theorem shaOnce_c (va : Value) (k : List UInt8) (ca : Nat) (vb : Value) (q : List UInt8) (cb : Nat) (vr : Value) (us : List Value) (ps : List (List UInt8)) (bb : List Nat) (cr : Nat) (w : World) (hG : (glb 0).holds w) (hQ : tabQ.holds w) (hr_k : (rd va 1 k.length ca (bv k)).holds w) (hr_q : (rd vb 1 q.length cb (bv q)).holds w) (hr_ps : (rd vr 1 ps.length cr us).holds w) (hp_ps : (rdv bb us ps).holds w) : Calls Tryd.prog 4 #[va, vb, vr] w fun e w' => e = .returned (.bool true) ∧ Mem w [] w' [] := by
  have hM : Mem w [] w [rd va 1 k.length ca (bv k), rd vb 1 q.length cb (bv q), rd vr 1 ps.length cr us, rdv bb us ps, glb 0, tabQ] := Mem.startR w (fun g hg => by
    simp only [List.mem_cons, List.not_mem_nil, or_false] at hg
    rcases hg with rfl | rfl | rfl | rfl | rfl | rfl
    · exact ⟨hr_k, rfl⟩
    · exact ⟨hr_q, rfl⟩
    · exact ⟨hr_ps, rfl⟩
    · exact ⟨hp_ps, rfl⟩
    · exact ⟨hG, rfl⟩
    · exact ⟨hQ, rfl⟩)
  refine f_enter 130 Tryd.func4 rfl rfl rfl ?_
  intro a hE
  replace hE : Env a 130 [(0, _), (1, _), (2, _)] := hE
  refine wp_seq_k (fun K1 hK1 => ?_)
  refine wp_plain [true] rfl rfl ?_
  refine s_assign hE rfl rfl ?_; clear hE a; intro a hE
  refine q_nil ?_
  refine hK1 _ _ ?_
  refine wp_seq_k (fun K2 hK2 => ?_)
  refine wp_seq_k (fun K3 hK3 => ?_)
  refine wp_plain [true, true, false, false, true, true, true, true, true, true, true, false, true] rfl rfl ?_
  refine s_move hE rfl rfl ?_; clear hE a; intro a hE
  refine s_move hE rfl rfl ?_; clear hE a; intro a hE
  have ho19_0 := rd_one (hM.get 0 rfl)
  have ho19_1 := rd_one (hM.get 1 rfl)
  refine s_buildSlice (xs := [.tmp 17, .tmp 18]) ([va, vb]) hE hM sl38 rfl rfl rfl (by intro v hv; simp only [List.mem_cons, List.not_mem_nil, or_false] at hv; rcases hv with rfl | rfl; (rw [ho19_0.1]; rfl); (rw [ho19_1.1]; rfl)) (by first | (simp [ho19_0.1, ho19_1.1]; done) | (simp [ho19_0.1, ho19_1.1, Value.cells]; done)) rfl rfl rfl ?_; clear hE a; intro a v19 w1 hE hM'
  clear hM; have hM := hM'; clear hM'
  obtain ⟨cl1, hl1⟩ := own_rd (hM.get 0 rfl)
  refine s_call hE rfl Tryd.call16 (long_c _ _ [k, q] _ _ _ hl1 (rdv_cons (p := k) (hM.get 1 rfl) (rdv_cons (p := q) (hM.get 2 rfl) (rdv_nil _))) (by first | omega | assumption | (simp; done) | (simp; omega) | decide)) rfl ?_
  rintro e w2 ⟨rfl, hN⟩
  refine ⟨_, rfl, trivial, ?_⟩; clear hE a; intro a hE
  replace hM : Mem _ _ w2 [_, _, _, _, _, _, _] := hM.call0 hN trivial; clear hN
  refine s_move hE rfl rfl ?_; clear hE a; intro a hE
  refine hE.split 21 rfl (fun hb21 hE' => ?_) (fun hb21 hE' => ?_)
  · replace hE := hE'; clear hE'
    refine g_no (b := true) hE rfl rfl rfl ?_; clear hE a; intro a hE
    refine g_no (b := true) hE rfl rfl rfl ?_; clear hE a; intro a hE
    refine g_no (b := true) hE rfl rfl rfl ?_; clear hE a; intro a hE
    refine s_pickt hE rfl rfl rfl ?_; clear hE a; intro a hE
    refine s_move hE rfl rfl ?_; clear hE a; intro a hE
    refine g_no (b := true) hE rfl rfl rfl ?_; clear hE a; intro a hE
    refine g_no (b := true) hE rfl rfl rfl ?_; clear hE a; intro a hE
    refine s_pickt hE rfl rfl rfl ?_; clear hE a; intro a hE
    refine q_nil ?_
    replace hE : Env a 130 [(0, _), (1, _), (2, _), (6, _), (29, _)] := hE.sel [0, 1, 2, 6, 29] rfl
    refine hK3 _ _ ?_
    refine wp_cond_true (hE.eval rfl) ?_
    refine wp_seq_k (fun K4 hK4 => ?_)
    refine wp_plain [false, true] rfl rfl ?_
    refine s_call hE rfl Tryd.call17 (awake3_c  _ (hM.get 5 rfl) (hM.get 6 rfl)) rfl ?_
    rintro e w3 ⟨rfl, hN⟩
    refine ⟨_, rfl, trivial, ?_⟩; clear hE a; intro a hE
    replace hM : Mem _ _ w3 [_, _, _, _, _, _, _] := hM.call0 hN trivial; clear hN
    refine s_assign hE rfl rfl ?_; clear hE a; intro a hE
    refine q_nil ?_
    replace hE : Env a 130 [(0, _), (1, _), (2, _), (6, _), (29, _)] := hE.sel [0, 1, 2, 6, 29] rfl
    refine hK4 _ _ ?_
    refine wp_ret ?_
    refine q_then_r ?_
    refine f_ret1 hE rfl rfl ?_
    exact ⟨(by first | rfl | (simp; done)), hM.pick [] rfl⟩
  · replace hE := hE'; clear hE'
    refine g_yes hE rfl rfl ?_
    refine s_move hE rfl rfl ?_; clear hE a; intro a hE
    refine g_yes hE rfl rfl ?_
    refine s_len hE rfl Tryd.underlying38 (rd_slice (hM.get 3 rfl)) rfl ?_; clear hE a; intro a hE
    refine g_yes hE rfl rfl ?_
    refine s_bin hE rfl rfl bin_gtr rfl ?_; clear hE a; intro a hE
    refine s_pickf hE rfl rfl rfl ?_; clear hE a; intro a hE
    refine s_move hE rfl rfl ?_; clear hE a; intro a hE
    refine hE.split 26 rfl (fun hb26 hE' => ?_) (fun hb26 hE' => ?_)
    · replace hE := hE'; clear hE'
      replace hb26 := of_decide_eq_true hb26
      replace hb26 : 20 < ps.length := by omega
      refine g_no (b := true) hE rfl rfl rfl ?_; clear hE a; intro a hE
      refine g_no (b := true) hE rfl rfl rfl ?_; clear hE a; intro a hE
      refine s_pickt hE rfl rfl rfl ?_; clear hE a; intro a hE
      refine q_nil ?_
      replace hE : Env a 130 [(0, _), (1, _), (2, _), (6, _), (29, _)] := hE.sel [0, 1, 2, 6, 29] rfl
      refine hK3 _ _ ?_
      refine wp_cond_true (hE.eval rfl) ?_
      refine wp_seq_k (fun K4 hK4 => ?_)
      refine wp_plain [false, true] rfl rfl ?_
      refine s_call hE rfl Tryd.call17 (awake3_c  _ (hM.get 5 rfl) (hM.get 6 rfl)) rfl ?_
      rintro e w3 ⟨rfl, hN⟩
      refine ⟨_, rfl, trivial, ?_⟩; clear hE a; intro a hE
      replace hM : Mem _ _ w3 [_, _, _, _, _, _, _] := hM.call0 hN trivial; clear hN
      refine s_assign hE rfl rfl ?_; clear hE a; intro a hE
      refine q_nil ?_
      replace hE : Env a 130 [(0, _), (1, _), (2, _), (6, _), (29, _)] := hE.sel [0, 1, 2, 6, 29] rfl
      refine hK4 _ _ ?_
      refine wp_ret ?_
      refine q_then_r ?_
      refine f_ret1 hE rfl rfl ?_
      exact ⟨(by first | rfl | (simp; done)), hM.pick [] rfl⟩
    · replace hE := hE'; clear hE'
      replace hb26 := of_decide_eq_false hb26
      replace hb26 : ¬ (20 < ps.length) := by omega
      refine g_yes hE rfl rfl ?_
      refine s_move hE rfl rfl ?_; clear hE a; intro a hE
      refine g_yes hE rfl rfl ?_
      refine s_call hE rfl Tryd.call16 (long_c _ _ ps _ _ _ (hM.get 3 rfl) (hM.get 4 rfl) (by first | omega | assumption | (simp; done) | (simp; omega) | decide)) rfl ?_
      rintro e w3 ⟨rfl, hN⟩
      refine ⟨_, rfl, trivial, ?_⟩; clear hE a; intro a hE
      replace hM : Mem _ _ w3 [_, _, _, _, _, _, _] := hM.call0 hN trivial; clear hN
      refine s_pickf hE rfl rfl rfl ?_; clear hE a; intro a hE
      refine q_nil ?_
      replace hE : Env a 130 [(0, _), (1, _), (2, _), (6, _), (29, _)] := hE.sel [0, 1, 2, 6, 29] rfl
      refine hK3 _ _ ?_
      refine hE.split 29 rfl (fun hb29 hE' => ?_) (fun hb29 hE' => ?_)
      · replace hE := hE'; clear hE'
        refine wp_cond_true (hE.eval rfl) ?_
        refine wp_seq_k (fun K4 hK4 => ?_)
        refine wp_plain [false, true] rfl rfl ?_
        refine s_call hE rfl Tryd.call17 (awake3_c  _ (hM.get 5 rfl) (hM.get 6 rfl)) rfl ?_
        rintro e w4 ⟨rfl, hN⟩
        refine ⟨_, rfl, trivial, ?_⟩; clear hE a; intro a hE
        replace hM : Mem _ _ w4 [_, _, _, _, _, _, _] := hM.call0 hN trivial; clear hN
        refine s_assign hE rfl rfl ?_; clear hE a; intro a hE
        refine q_nil ?_
        replace hE : Env a 130 [(0, _), (1, _), (2, _), (6, _), (29, _)] := hE.sel [0, 1, 2, 6, 29] rfl
        refine hK4 _ _ ?_
        refine wp_ret ?_
        refine q_then_r ?_
        refine f_ret1 hE rfl rfl ?_
        exact ⟨(by first | rfl | (simp; done)), hM.pick [] rfl⟩
      · replace hE := hE'; clear hE'
        have hlk : k.length ≤ 3000 := longP_no hb21 0 (Nat.succ_pos _)
        have hlq : q.length ≤ 3000 := longP_no hb21 1 (Nat.lt_succ_self 1)
        have hkl : (k.take (k.length / 64 * 64)).length = k.length / 64 * 64 := by rw [List.length_take]; omega
        have hql : (q.take (q.length / 64 * 64)).length = q.length / 64 * 64 := by rw [List.length_take]; omega
        have hA : (k.take (k.length / 64 * 64)).length % 64 = 0 := by omega
        have hB : (q.take (q.length / 64 * 64)).length % 64 = 0 := by omega
        have hAB : ((k.take (k.length / 64 * 64)) ++ (q.take (q.length / 64 * 64))).length % 64 = 0 := by rw [List.length_append]; omega
        refine wp_cond_false (hE.eval rfl) ?_
        refine wp_skip ?_
        refine hK2 _ _ ?_
        refine wp_seq_k (fun K4 hK4 => ?_)
        refine wp_plain [true, false, true, false, true, true] rfl rfl ?_
        refine s_move hE rfl rfl ?_; clear hE a; intro a hE
        refine s_call hE rfl Tryd.call21 (whole_c _ k _ _ (hM.get 1 rfl) (by omega)) rfl ?_
        rintro e w4 ⟨vw32, cw32, rfl, hrw32, hvw32, hN⟩
        refine ⟨_, rfl, trivial, ?_⟩; clear hE a; intro a hE
        replace hM : Mem _ _ w4 [_, _, _, _, _, _, _] := hM.call0 hN trivial; clear hN
        replace hM := hM.addPart 1 rfl hrw32 hvw32; clear hrw32
        refine s_move hE rfl rfl ?_; clear hE a; intro a hE
        refine s_call hE rfl Tryd.call21 (whole_c _ q _ _ (hM.get 3 rfl) (by omega)) rfl ?_
        rintro e w5 ⟨vw34, cw34, rfl, hrw34, hvw34, hN⟩
        refine ⟨_, rfl, trivial, ?_⟩; clear hE a; intro a hE
        replace hM : Mem _ _ w5 [_, _, _, _, _, _, _, _] := hM.call0 hN trivial; clear hN
        replace hM := hM.addPart 3 rfl hrw34 hvw34; clear hrw34
        refine s_assign hE rfl rfl ?_; clear hE a; intro a hE
        refine s_assign hE rfl rfl ?_; clear hE a; intro a hE
        refine q_nil ?_
        replace hE : Env a 130 [(0, _), (1, _), (2, _), (6, _), (29, _)] := hE.sel [0, 1, 2, 6, 29] rfl
        refine hK4 _ _ ?_
        refine wp_seq_k (fun K5 hK5 => ?_)
        refine wp_plain [true, false, true, true, true, false, false, true] rfl rfl ?_
        refine s_move hE rfl rfl ?_; clear hE a; intro a hE
        refine s_call hE rfl Tryd.call18 (pahead_c _ (k.take (k.length / 64 * 64)) _ _ (hM.get 7 rfl) (hM.get 1 rfl) (by have hl_ : (k.take (k.length / 64 * 64)).length = k.length / 64 * 64 := hkl; first | omega | (simp; done) | (simp; omega))) rfl ?_
        rintro e w6 ⟨rfl, hN⟩
        refine ⟨_, rfl, trivial, ?_⟩; clear hE a; intro a hE
        replace hM : Mem _ _ w6 [_, _, _, _, _, _, _, _, _] := hM.call0 hN trivial; clear hN
        refine s_move hE rfl rfl ?_; clear hE a; intro a hE
        refine s_extract hE rfl rfl rfl ?_; clear hE a; intro a hE
        refine s_extract hE rfl rfl rfl ?_; clear hE a; intro a hE
        refine s_alloc [8, 1, 1] hE hM zero30 rfl rfl ?_; clear hE a; intro a b7 w7 hE hM'
        clear hM; have hM := hM'; clear hM'
        replace hM := hM.resplit (ss' := [zeroP]) (ns' := [10]) (by simp [zeroP]) (by simp [zeroP])
        refine s_storeSeg 0 (vs := pfL (pfA (k.take (k.length / 64 * 64)))) hE rfl rfl hM rfl sz30 (pfL_length (pfA_ok (by have hl_ : (k.take (k.length / 64 * 64)).length = k.length / 64 * 64 := hkl; first | omega | (simp; done) | (simp; omega)))) (pfL_one _) rfl (by simp [zeroP]) rfl (by intro X h; cases h) ?_; intro w8 hM'; clear hM; have hM := hM'; clear hM'
        simp only [List.set_cons_zero] at hM
        refine s_assign hE rfl rfl ?_; clear hE a; intro a hE
        refine q_nil ?_
        replace hE : Env a 130 [(0, _), (1, _), (2, _), (6, _), (7, _), (8, _), (29, _)] := hE.sel [0, 1, 2, 6, 7, 8, 29] rfl
        refine hK5 _ _ ?_
        refine wp_seq_k (fun K6 hK6 => ?_)
        refine wp_plain [false, true, false, true, false, true] rfl rfl ?_
        refine s_buildSlice (xs := []) ([]) hE hM sl23 rfl rfl rfl (by intro v hv; cases hv) rfl rfl rfl rfl ?_; clear hE a; intro a v40 w9 hE hM'
        clear hM; have hM := hM'; clear hM'
        replace hM := hM.ownEq (m' := ([] : List UInt8).length) (cs' := bv ([] : List UInt8)) rfl rfl
        refine s_move hE rfl rfl ?_; clear hE a; intro a hE
        refine s_append hE rfl rfl hM sl23 (Src.rd Tryd.underlying23 (hM.get 3 rfl) (bv_one _)) (len47 (by have hl_x : ([] : List UInt8).length = 0 := (by first | (simp; done) | (simp [*]; done) | (simp; omega)); have hl_y : (k.take (k.length / 64 * 64)).length = k.length / 64 * 64 := hkl; first | omega | (simp; done) | (simp; omega))) (by have hl_x : ([] : List UInt8).length = 0 := (by first | (simp; done) | (simp [*]; done) | (simp; omega)); have hl_y : (k.take (k.length / 64 * 64)).length = k.length / 64 * 64 := hkl; first | omega | (simp; done) | (simp; omega)) (by intro X h; cases h) rfl ?_; clear hE a; intro a v42 w10 hE hM'; clear hM; have hM := hM'; clear hM'
        replace hM := Mem.ownNil (q := k.take (k.length / 64 * 64)) hM rfl (by first | rfl | (simp; done))
        refine s_move hE rfl rfl ?_; clear hE a; intro a hE
        refine s_append hE rfl rfl hM sl23 (Src.rd Tryd.underlying23 (hM.get 2 rfl) (bv_one _)) (len47 (by have hl_x : (k.take (k.length / 64 * 64)).length = k.length / 64 * 64 := hkl; have hl_y : (q.take (q.length / 64 * 64)).length = q.length / 64 * 64 := hql; first | omega | (simp; done) | (simp; omega))) (by have hl_x : (k.take (k.length / 64 * 64)).length = k.length / 64 * 64 := hkl; have hl_y : (q.take (q.length / 64 * 64)).length = q.length / 64 * 64 := hql; first | omega | (simp; done) | (simp; omega)) (by intro X h; cases h) rfl ?_; clear hE a; intro a v44 w11 hE hM'; clear hM; have hM := hM'; clear hM'
        replace hM := Mem.ownApp (p := k.take (k.length / 64 * 64)) (q := q.take (q.length / 64 * 64)) hM (by first | rfl | (simp; done))
        refine s_assign hE rfl rfl ?_; clear hE a; intro a hE
        refine q_nil ?_
        replace hE : Env a 130 [(0, _), (1, _), (2, _), (6, _), (7, _), (8, _), (9, _), (29, _)] := hE.sel [0, 1, 2, 6, 7, 8, 9, 29] rfl
        refine hK6 _ _ ?_
        refine wp_seq_k (fun K7 hK7 => ?_)
        refine wp_plain [true, false, true, true, true, false, false, true] rfl rfl ?_
        refine s_move hE rfl rfl ?_; clear hE a; intro a hE
        obtain ⟨cq2, hq2⟩ := own_rd (hM.get 0 rfl)
        refine s_call hE rfl Tryd.call18 (pahead_c _ ((k.take (k.length / 64 * 64)) ++ (q.take (q.length / 64 * 64))) _ _ (hM.get 9 rfl) hq2 (by have hl_ : ((k.take (k.length / 64 * 64)) ++ (q.take (q.length / 64 * 64))).length = k.length / 64 * 64 + (q.length / 64 * 64) := (by have hl_p : (k.take (k.length / 64 * 64)).length = k.length / 64 * 64 := hkl; have hl_q : (q.take (q.length / 64 * 64)).length = q.length / 64 * 64 := hql; rw [List.length_append]; omega); first | omega | (simp; done) | (simp; omega))) rfl ?_
        rintro e w12 ⟨rfl, hN⟩
        refine ⟨_, rfl, trivial, ?_⟩; clear hE a; intro a hE
        replace hM : Mem _ _ w12 [_, _, _, _, _, _, _, _, _, _, _] := hM.call0 hN trivial; clear hN
        refine s_move hE rfl rfl ?_; clear hE a; intro a hE
        refine s_extract hE rfl rfl rfl ?_; clear hE a; intro a hE
        refine s_extract hE rfl rfl rfl ?_; clear hE a; intro a hE
        refine s_alloc [8, 1, 1] hE hM zero30 rfl rfl ?_; clear hE a; intro a b10 w13 hE hM'
        clear hM; have hM := hM'; clear hM'
        replace hM := hM.resplit (ss' := [zeroP]) (ns' := [10]) (by simp [zeroP]) (by simp [zeroP])
        refine s_storeSeg 0 (vs := pfL (pfA ((k.take (k.length / 64 * 64)) ++ (q.take (q.length / 64 * 64))))) hE rfl rfl hM rfl sz30 (pfL_length (pfA_ok (by have hl_ : ((k.take (k.length / 64 * 64)) ++ (q.take (q.length / 64 * 64))).length = k.length / 64 * 64 + (q.length / 64 * 64) := (by have hl_p : (k.take (k.length / 64 * 64)).length = k.length / 64 * 64 := hkl; have hl_q : (q.take (q.length / 64 * 64)).length = q.length / 64 * 64 := hql; rw [List.length_append]; omega); first | omega | (simp; done) | (simp; omega)))) (pfL_one _) rfl (by simp [zeroP]) rfl (by intro X h; cases h) ?_; intro w14 hM'; clear hM; have hM := hM'; clear hM'
        simp only [List.set_cons_zero] at hM
        refine s_assign hE rfl rfl ?_; clear hE a; intro a hE
        refine q_nil ?_
        replace hE : Env a 130 [(0, _), (1, _), (2, _), (6, _), (7, _), (8, _), (9, _), (10, _), (11, _), (29, _)] := hE.sel [0, 1, 2, 6, 7, 8, 9, 10, 11, 29] rfl
        refine hK7 _ _ ?_
        refine wp_seq_k (fun K8 hK8 => ?_)
        refine wp_seq_k (fun K9 hK9 => ?_)
        refine wp_plain [true, true, true, true, true, true] rfl rfl ?_
        refine s_move hE rfl rfl ?_; clear hE a; intro a hE
        refine s_bin hE rfl rfl bin_neq rfl ?_; clear hE a; intro a hE
        refine s_move hE rfl rfl ?_; clear hE a; intro a hE
        replace hE := hE.cast 52 rfl (show _ = Value.bool false from (congrArg Value.bool (by rw [pfE_zero hA]; simp)))
        refine g_yes hE rfl rfl ?_
        refine s_move hE rfl rfl ?_; clear hE a; intro a hE
        refine g_yes hE rfl rfl ?_
        refine s_bin hE rfl rfl bin_neq rfl ?_; clear hE a; intro a hE
        refine s_pickf hE rfl rfl rfl ?_; clear hE a; intro a hE
        refine q_nil ?_
        replace hE : Env a 130 [(0, _), (1, _), (2, _), (6, _), (7, _), (9, _), (10, _), (29, _), (55, _)] := hE.sel [0, 1, 2, 6, 7, 9, 10, 29, 55] rfl
        refine hK9 _ _ ?_
        replace hE := hE.cast 55 rfl (show _ = Value.bool false from (congrArg Value.bool (by rw [pfE_zero hAB]; simp)))
        refine wp_cond_false (hE.eval rfl) ?_
        refine wp_skip ?_
        refine hK8 _ _ ?_
        refine wp_seq_k (fun K10 hK10 => ?_)
        refine wp_seq_k (fun K11 hK11 => ?_)
        refine wp_plain [true] rfl rfl ?_
        refine s_assign hE rfl rfl ?_; clear hE a; intro a hE
        refine q_nil ?_
        refine hK11 _ _ ?_
        refine wp_block ?_
        refine c_loop (fun (j : Nat) a w' => j ≤ 2 ∧ Env a 130 [(0, vw32), (1, vw34), (2, vr), (6, .bool false), (7, .pointer (some ⟨b7, 0, none⟩)), (9, v44), (10, .pointer (some ⟨b10, 0, none⟩)), (12, .int .i64 ((j : Nat) : Int)), (29, .bool false), (55, .bool false)] ∧ Mem w [] w' [blk b10 [pfL (pfA ((k.take (k.length / 64 * 64)) ++ (q.take (q.length / 64 * 64))))] [10] 30, own v44 1 ((k.take (k.length / 64 * 64)) ++ (q.take (q.length / 64 * 64))).length (bv ((k.take (k.length / 64 * 64)) ++ (q.take (q.length / 64 * 64)))), blk b7 [pfL (pfA (k.take (k.length / 64 * 64)))] [10] 30, rd vw34 1 (q.take (q.length / 64 * 64)).length cw34 (bv (q.take (q.length / 64 * 64))), rd vw32 1 (k.take (k.length / 64 * 64)).length cw32 (bv (k.take (k.length / 64 * 64))), own v19 1 2 [va, vb], rd va 1 k.length ca (bv k), rd vb 1 q.length cb (bv q), rd vr 1 ps.length cr us, rdv bb us ps, glb 0, tabQ]) (fun j => 2 - j) 0 ⟨Nat.zero_le _, hE.sel [0, 1, 2, 6, 7, 9, 10, 12, 29, 55] rfl, hM⟩ ?_
        clear hE hM a; rintro j a w15 ⟨hj, hE, hM⟩
        refine wp_seq_k (fun K12 hK12 => ?_)
        refine wp_seq_k (fun K13 hK13 => ?_)
        refine wp_plain [true, true] rfl rfl ?_
        refine s_move hE rfl rfl ?_; clear hE a; intro a hE
        refine s_bin hE rfl rfl bin_lss rfl ?_; clear hE a; intro a hE
        refine q_nil ?_
        replace hE : Env a 130 [(0, _), (1, _), (2, _), (6, _), (7, _), (9, _), (10, _), (12, _), (29, _), (55, _), (57, _)] := hE.sel [0, 1, 2, 6, 7, 9, 10, 12, 29, 55, 57] rfl
        refine hK13 _ _ ?_
        refine hE.split 57 rfl (fun hb57 hE' => ?_) (fun hb57 hE' => ?_)
        · replace hE := hE'; clear hE'
          replace hb57 := of_decide_eq_true hb57
          replace hb57 : j < 2 := by omega
          replace hb57 : j < 2 := by omega
          refine wp_cond_true (hE.eval rfl) ?_
          refine wp_skip ?_
          refine hK12 _ _ ?_
          refine wp_seq_k (fun K14 hK14 => ?_)
          refine wp_block ?_
          refine wp_seq_k (fun K15 hK15 => ?_)
          refine wp_plain [true, true, false, true, true, true, false, false, true] rfl rfl ?_
          refine s_loadN hE rfl (hM.get 2 rfl) row30 rfl (by intro X h; cases h) rfl ?_; clear hE a; intro a hE
          refine s_move hE rfl rfl ?_; clear hE a; intro a hE
          refine s_call hE rfl Tryd.call22 (pmore_c (pfA (k.take (k.length / 64 * 64))) _ (q.take (q.length / 64 * 64)) _ _ (hM.get 10 rfl) (hM.get 3 rfl) (pfA_ok (by have hl_ : (k.take (k.length / 64 * 64)).length = k.length / 64 * 64 := hkl; first | omega | (simp; done) | (simp; omega))) (by have hl_ : (q.take (q.length / 64 * 64)).length = q.length / 64 * 64 := hql; first | omega | (simp; done) | (simp; omega))) rfl ?_
          rintro e w16 ⟨rfl, hN⟩
          refine ⟨_, rfl, trivial, ?_⟩; clear hE a; intro a hE
          replace hM : Mem _ _ w16 [_, _, _, _, _, _, _, _, _, _, _, _] := hM.call0 hN trivial; clear hN
          refine s_move hE rfl rfl ?_; clear hE a; intro a hE
          refine s_extract hE rfl rfl rfl ?_; clear hE a; intro a hE
          refine s_extract hE rfl rfl rfl ?_; clear hE a; intro a hE
          refine s_alloc [8, 1, 1] hE hM zero30 rfl rfl ?_; clear hE a; intro a b13 w17 hE hM'
          clear hM; have hM := hM'; clear hM'
          replace hM := hM.resplit (ss' := [zeroP]) (ns' := [10]) (by simp [zeroP]) (by simp [zeroP])
          refine s_storeSeg 0 (vs := pfL (pfM (pfA (k.take (k.length / 64 * 64))) (q.take (q.length / 64 * 64)))) hE rfl rfl hM rfl sz30 (pfL_length (pfM_ok (pfA_ok (by have hl_ : (k.take (k.length / 64 * 64)).length = k.length / 64 * 64 := hkl; first | omega | (simp; done) | (simp; omega))) (by rw [pfN_A hA]; omega))) (pfL_one _) rfl (by simp [zeroP]) rfl (by intro X h; cases h) ?_; intro w18 hM'; clear hM; have hM := hM'; clear hM'
          simp only [List.set_cons_zero] at hM
          refine s_assign hE rfl rfl ?_; clear hE a; intro a hE
          refine q_nil ?_
          replace hE : Env a 130 [(0, _), (1, _), (2, _), (6, _), (7, _), (9, _), (10, _), (12, _), (13, _), (14, _), (29, _), (55, _), (57, _)] := hE.sel [0, 1, 2, 6, 7, 9, 10, 12, 13, 14, 29, 55, 57] rfl
          refine hK15 _ _ ?_
          refine wp_seq_k (fun K16 hK16 => ?_)
          refine wp_seq_k (fun K17 hK17 => ?_)
          refine wp_drawnM hM (by kernel_rfl) (fun _ => False) [(0, true), (1, true), (2, true), (3, true), (5, true), (6, true), (4, false), (7, true), (8, true), (9, true), (10, true), (12, true), (11, false), (13, false), (14, true), (15, true)] [(4, [(7, 4), (8, 7), (9, 4), (10, 9), (12, 9), (11, 9), (13, 9), (14, 9), (15, 9)]), (11, [(13, 11), (14, 11), (15, 14)]), (13, [(14, 13), (15, 14)])] (by kernel_rfl) rfl ?_
          intro w19 hM' hww19; clear hM; have hM := hM'; clear hM'
          refine s_move hE rfl rfl ?_; clear hE a; intro a hE
          refine s_bin hE rfl rfl bin_neq rfl ?_; clear hE a; intro a hE
          refine s_move hE rfl rfl ?_; clear hE a; intro a hE
          replace hE := hE.cast 68 rfl (show _ = Value.bool false from (congrArg Value.bool (by rw [pfF_A hA hB]; simp)))
          refine g_yes hE rfl rfl ?_
          refine s_loadN hE rfl (hM.get 0 rfl) row30 rfl (by intro X h; cases h; simp) rfl ?_; clear hE a; intro a hE
          refine g_yes hE rfl rfl ?_
          refine s_move hE rfl rfl ?_; clear hE a; intro a hE
          refine g_yes hE rfl rfl ?_
          refine s_len hE rfl Tryd.underlying23 (own_slice (hM.get 2 rfl)) rfl ?_; clear hE a; intro a hE
          replace hE := hE.cast 72 rfl (show _ = Value.int .i64 ((k.length / 64 * 64 + (q.length / 64 * 64) : Nat) : Int) from (congrArg (fun n : Nat => Value.int .i64 (n : Int)) (by have hl_p : (k.take (k.length / 64 * 64)).length = k.length / 64 * 64 := hkl; have hl_q : (q.take (q.length / 64 * 64)).length = q.length / 64 * 64 := hql; rw [List.length_append]; omega)))
          refine g_yes hE rfl rfl ?_
          refine s_call hE rfl Tryd.call23 (psize_c (pfM (pfA (k.take (k.length / 64 * 64))) (q.take (q.length / 64 * 64))) _ (pfM_ok (pfA_ok (by have hl_ : (k.take (k.length / 64 * 64)).length = k.length / 64 * 64 := hkl; first | omega | (simp; done) | (simp; omega))) (by rw [pfN_A hA]; omega))) rfl ?_
          rintro e w20 ⟨rfl, hN⟩
          refine ⟨_, rfl, hN.sta0 _, ?_⟩; clear hE a; intro a hE
          replace hM : Mem _ _ w20 [_, _, _, _, _, _, _, _, _, _, _, _, _] := hM.call0 hN trivial; clear hN
          refine g_yes hE rfl rfl ?_
          refine s_bin hE rfl rfl bin_neq rfl ?_; clear hE a; intro a hE
          refine s_pickf hE rfl rfl rfl ?_; clear hE a; intro a hE
          refine s_move hE rfl rfl ?_; clear hE a; intro a hE
          replace hE := hE.cast 75 rfl (show _ = Value.bool false from (congrArg Value.bool (by rw [pfN_M hA hB, hkl, hql]; simp)))
          refine g_yes hE rfl rfl ?_
          refine s_loadN hE rfl (hM.get 0 rfl) row30 rfl (by intro X h; cases h; simp) rfl ?_; clear hE a; intro a hE
          refine g_yes hE rfl rfl ?_
          refine s_loadN hE rfl (hM.get 1 rfl) row30 rfl (by intro X h; cases h; simp) rfl ?_; clear hE a; intro a hE
          refine g_yes hE rfl rfl ?_
          refine s_call hE rfl Tryd.call23 (psize_c (pfM (pfA (k.take (k.length / 64 * 64))) (q.take (q.length / 64 * 64))) _ (pfM_ok (pfA_ok (by have hl_ : (k.take (k.length / 64 * 64)).length = k.length / 64 * 64 := hkl; first | omega | (simp; done) | (simp; omega))) (by rw [pfN_A hA]; omega))) rfl ?_
          rintro e w21 ⟨rfl, hN⟩
          refine ⟨_, rfl, hN.sta0 _, ?_⟩; clear hE a; intro a hE
          replace hM : Mem _ _ w21 [_, _, _, _, _, _, _, _, _, _, _, _, _] := hM.call0 hN trivial; clear hN
          refine g_yes hE rfl rfl ?_
          refine s_call hE rfl Tryd.call23 (psize_c (pfA ((k.take (k.length / 64 * 64)) ++ (q.take (q.length / 64 * 64)))) _ (pfA_ok (by have hl_ : ((k.take (k.length / 64 * 64)) ++ (q.take (q.length / 64 * 64))).length = k.length / 64 * 64 + (q.length / 64 * 64) := (by have hl_p : (k.take (k.length / 64 * 64)).length = k.length / 64 * 64 := hkl; have hl_q : (q.take (q.length / 64 * 64)).length = q.length / 64 * 64 := hql; rw [List.length_append]; omega); first | omega | (simp; done) | (simp; omega)))) rfl ?_
          rintro e w22 ⟨rfl, hN⟩
          refine ⟨_, rfl, hN.sta0 _, ?_⟩; clear hE a; intro a hE
          replace hM : Mem _ _ w22 [_, _, _, _, _, _, _, _, _, _, _, _, _] := hM.call0 hN trivial; clear hN
          refine g_yes hE rfl rfl ?_
          refine s_bin hE rfl rfl bin_neq rfl ?_; clear hE a; intro a hE
          refine s_pickf hE rfl rfl rfl ?_; clear hE a; intro a hE
          refine q_nil ?_
          replace hE : Env a 130 [(0, _), (1, _), (2, _), (6, _), (7, _), (9, _), (10, _), (12, _), (13, _), (14, _), (29, _), (55, _), (57, _), (81, _)] := hE.sel [0, 1, 2, 6, 7, 9, 10, 12, 13, 14, 29, 55, 57, 81] rfl
          refine hK17 _ _ ?_
          replace hE := hE.cast 81 rfl (show _ = Value.bool false from (congrArg Value.bool (by rw [pfN_M hA hB, pfN_A hAB, List.length_append]; simp)))
          refine wp_cond_false (hE.eval rfl) ?_
          refine wp_skip ?_
          refine hK16 _ _ ?_
          refine wp_seq_k (fun K18 hK18 => ?_)
          refine wp_plain [true] rfl rfl ?_
          refine s_assign hE rfl rfl ?_; clear hE a; intro a hE
          refine q_nil ?_
          refine hK18 _ _ ?_
          refine wp_block ?_
          refine c_loop (fun (i : Nat) a w' => i ≤ ps.length ∧ Env a 130 [(0, vw32), (1, vw34), (2, vr), (6, .bool false), (7, .pointer (some ⟨b7, 0, none⟩)), (9, v44), (10, .pointer (some ⟨b10, 0, none⟩)), (12, .int .i64 ((j : Nat) : Int)), (13, .pointer (some ⟨b13, 0, none⟩)), (14, .int .i64 ((pfF (pfA (k.take (k.length / 64 * 64))) (q.take (q.length / 64 * 64)) : Nat) : Int)), (15, .int .i64 ((i : Nat) : Int)), (29, .bool false), (55, .bool false), (57, .bool true), (81, .bool false)] ∧ Mem w [] w' [blk b13 [pfL (pfM (pfA (k.take (k.length / 64 * 64))) (q.take (q.length / 64 * 64)))] [10] 30, blk b10 [pfL (pfA ((k.take (k.length / 64 * 64)) ++ (q.take (q.length / 64 * 64))))] [10] 30, own v44 1 ((k.take (k.length / 64 * 64)) ++ (q.take (q.length / 64 * 64))).length (bv ((k.take (k.length / 64 * 64)) ++ (q.take (q.length / 64 * 64)))), blk b7 [pfL (pfA (k.take (k.length / 64 * 64)))] [10] 30, rd vw34 1 (q.take (q.length / 64 * 64)).length cw34 (bv (q.take (q.length / 64 * 64))), rd vw32 1 (k.take (k.length / 64 * 64)).length cw32 (bv (k.take (k.length / 64 * 64))), own v19 1 2 [va, vb], rd va 1 k.length ca (bv k), rd vb 1 q.length cb (bv q), rd vr 1 ps.length cr us, rdv bb us ps, glb 0, tabQ]) (fun i => ps.length - i) 0 ⟨Nat.zero_le _, hE.sel [0, 1, 2, 6, 7, 9, 10, 12, 13, 14, 15, 29, 55, 57, 81] rfl, hM⟩ ?_
          clear hE hM a; rintro i a w23 ⟨hi, hE, hM⟩
          refine wp_seq_k (fun K19 hK19 => ?_)
          refine wp_seq_k (fun K20 hK20 => ?_)
          refine wp_plain [true, true, true, true] rfl rfl ?_
          refine s_move hE rfl rfl ?_; clear hE a; intro a hE
          refine s_move hE rfl rfl ?_; clear hE a; intro a hE
          refine s_len hE rfl Tryd.underlying38 (rd_slice (hM.get 9 rfl)) rfl ?_; clear hE a; intro a hE
          refine s_bin hE rfl rfl bin_lss rfl ?_; clear hE a; intro a hE
          refine q_nil ?_
          replace hE : Env a 130 [(0, _), (1, _), (2, _), (6, _), (7, _), (9, _), (10, _), (12, _), (13, _), (14, _), (15, _), (29, _), (55, _), (57, _), (81, _), (85, _)] := hE.sel [0, 1, 2, 6, 7, 9, 10, 12, 13, 14, 15, 29, 55, 57, 81, 85] rfl
          refine hK20 _ _ ?_
          refine hE.split 85 rfl (fun hb85 hE' => ?_) (fun hb85 hE' => ?_)
          · replace hE := hE'; clear hE'
            replace hb85 := of_decide_eq_true hb85
            replace hb85 : i < ps.length := by omega
            replace hb85 : i < ps.length := by omega
            have hlr : (ps.getD i []).length ≤ 3000 := longP_no hb29 i (by omega)
            refine wp_cond_true (hE.eval rfl) ?_
            refine wp_skip ?_
            refine hK19 _ _ ?_
            refine wp_seq_k (fun K21 hK21 => ?_)
            refine wp_block ?_
            refine wp_seq_j (fun a w' => ∃ (b16 : Nat), ∃ (v95 : Value), Env a 130 [(0, vw32), (1, vw34), (2, vr), (6, .bool false), (7, .pointer (some ⟨b7, 0, none⟩)), (9, v44), (10, .pointer (some ⟨b10, 0, none⟩)), (12, .int .i64 ((j : Nat) : Int)), (13, .pointer (some ⟨b13, 0, none⟩)), (14, .int .i64 ((pfF (pfA (k.take (k.length / 64 * 64))) (q.take (q.length / 64 * 64)) : Nat) : Int)), (15, .int .i64 ((i : Nat) : Int)), (16, .pointer (some ⟨b16, 0, none⟩)), (29, .bool false), (55, .bool false), (57, .bool true), (81, .bool false), (85, .bool true)] ∧ Mem w [] w' [blk b16 [bv (shaW (((k.take (k.length / 64 * 64)) ++ (q.take (q.length / 64 * 64))) ++ (ps.getD i [])))] [32] 35, own v95 1 (((k.take (k.length / 64 * 64)) ++ (q.take (q.length / 64 * 64))) ++ (ps.getD i [])).length (bv (((k.take (k.length / 64 * 64)) ++ (q.take (q.length / 64 * 64))) ++ (ps.getD i []))), blk b13 [pfL (pfM (pfA (k.take (k.length / 64 * 64))) (q.take (q.length / 64 * 64)))] [10] 30, blk b10 [pfL (pfA ((k.take (k.length / 64 * 64)) ++ (q.take (q.length / 64 * 64))))] [10] 30, own v44 1 ((k.take (k.length / 64 * 64)) ++ (q.take (q.length / 64 * 64))).length (bv ((k.take (k.length / 64 * 64)) ++ (q.take (q.length / 64 * 64)))), blk b7 [pfL (pfA (k.take (k.length / 64 * 64)))] [10] 30, rd vw34 1 (q.take (q.length / 64 * 64)).length cw34 (bv (q.take (q.length / 64 * 64))), rd vw32 1 (k.take (k.length / 64 * 64)).length cw32 (bv (k.take (k.length / 64 * 64))), own v19 1 2 [va, vb], rd va 1 k.length ca (bv k), rd vb 1 q.length cb (bv q), rd vr 1 ps.length cr us, rdv bb us ps, glb 0, tabQ]) ?_ ?_
            · refine wp_treeM hM (by kernel_rfl) (fun _ => True) (fun _ => True) (.re [(1, true), (3, true), (4, true), (5, true), (6, true), (0, false), (2, false), (7, false), (8, false), (9, false), (10, false)] (.fl 4 (.weak (.fl 1 (.or 0 (.re [(2, false), (7, false), (8, false), (9, false), (10, false)] (.fl 0 (.fl 0 (.or 2 (.re [(7, false), (8, false), (9, false), (10, false)] (.fl 0 (.fl 0 (.or 7 (.re [(8, false), (9, false), (10, false)] (.fl 0 (.fl 0 (.or 8 (.re [(9, false), (10, false)] (.fl 0 (.fl 0 (.or 9 (.cut (.re [(10, false)] (.fl 0 (.fl 0 (.weak (.or 10 (.cut (.re [] (.weak (.leaf 0)))) (.stop))))))) (.stop))))) (.or 9 (.cut (.re [(8, false), (10, false)] (.fl 0 (.fl 0 (.or 8 (.re [(10, false)] (.fl 0 (.fl 0 (.weak (.or 10 (.cut (.re [] (.weak (.leaf 0)))) (.stop)))))) (.stop)))))) (.stop)))))) (.or 9 (.cut (.re [(7, false), (8, false), (10, false)] (.fl 0 (.fl 0 (.weak (.or 7 (.cut (.re [(8, false), (10, false)] (.fl 0 (.fl 0 (.or 8 (.re [(10, false)] (.fl 0 (.fl 0 (.weak (.or 10 (.cut (.re [] (.weak (.leaf 0)))) (.stop)))))) (.stop)))))) (.stop))))))) (.stop)))))) (.or 9 (.re [(2, false), (7, false), (8, false), (10, false)] (.fl 0 (.fl 0 (.or 2 (.cut (.re [(7, false), (8, false), (10, false)] (.fl 0 (.fl 0 (.weak (.or 7 (.cut (.re [(8, false), (10, false)] (.fl 0 (.fl 0 (.or 8 (.re [(10, false)] (.fl 0 (.fl 0 (.weak (.or 10 (.cut (.re [] (.weak (.leaf 0)))) (.stop)))))) (.stop)))))) (.stop))))))) (.stop))))) (.stop)))))) (.or 9 (.re [(0, false), (2, false), (7, false), (8, false), (10, false)] (.fl 0 (.fl 0 (.or 0 (.re [(2, false), (7, false), (8, false), (10, false)] (.fl 0 (.fl 0 (.or 2 (.cut (.re [(7, false), (8, false), (10, false)] (.fl 0 (.fl 0 (.weak (.or 7 (.cut (.re [(8, false), (10, false)] (.fl 0 (.fl 0 (.or 8 (.re [(10, false)] (.fl 0 (.fl 0 (.weak (.or 10 (.cut (.re [] (.weak (.leaf 0)))) (.stop)))))) (.stop)))))) (.stop))))))) (.stop))))) (.stop))))) (.stop))))))) [(1, true), (3, true), (4, true), (5, true), (6, true), (0, false), (2, false), (7, false), (8, false), (9, false), (10, false)] [(0, [(2, 0), (7, 2), (8, 7), (10, 0)]), (2, [(7, 2), (8, 7), (10, 2)]), (5, [(6, 5), (7, 6), (8, 7), (10, 5)]), (6, [(7, 6), (8, 7), (10, 6)]), (7, [(8, 7), (10, 7)]), (8, [(10, 8)]), (9, [(10, 9)]), (10, [])] (by kernel_rfl) ?_
              intro w24 hM' hww24; clear hM; have hM := hM'; clear hM'
              refine o_re ?_
              refine o_fl rfl ?_
              refine s_move hE rfl rfl ?_; clear hE a; intro a hE
              refine s_move hE rfl rfl ?_; clear hE a; intro a hE
              refine s_move hE rfl rfl ?_; clear hE a; intro a hE
              refine s_indexRd (j := i) hE rfl (hM.get 9 rfl) rfl slt38 (by first | rfl | omega) (by first | omega | (simp; omega) | (simp [*]; omega)) rfl ?_; clear hE a; intro a p93 hE hc93 hp93
              have hul93 : us.length = ps.length := (hM.get 10 rfl).2.1
              rw [elem1 (by omega)] at hc93
              refine q_nil (q_nx ?_)
              refine o_weak (fun b => b ∉ rdB vr cr) (fun _ _ => trivial) ?_
              refine o_fl rfl ?_
              refine s_loadAt1 hE rfl hc93 one23 (by intro X h; cases h; exact fun b hb hx => absurd (hp93 b hb) (by first | exact hx | exact hx.2 | exact hx.2.2 | exact hx.2.2.2 | exact hx.2.2.2.2)) rfl ?_; clear hE a; intro a hE
              refine q_nil (q_nx ?_)
              refine o_or rfl ?_ ?_
              · refine s_buildSlice (xs := []) ([]) hE hM sl23 rfl rfl rfl (by intro v hv; cases hv) rfl rfl rfl rfl ?_; clear hE a; intro a v88 w25 hE hM'
                clear hM; have hM := hM'; clear hM'
                replace hM := hM.ownEq (m' := ([] : List UInt8).length) (cs' := bv ([] : List UInt8)) rfl rfl
                refine q_nil (q_nx ?_)
                refine o_re ?_
                refine o_fl rfl ?_
                refine q_nil (q_nx ?_)
                refine o_fl rfl ?_
                refine q_nil (q_nx ?_)
                refine o_or rfl ?_ ?_
                · obtain ⟨cq15, hq15⟩ := own_rd (hM.get 3 rfl)
                  refine s_append hE rfl rfl hM sl23 (Src.rd Tryd.underlying23 hq15 (bv_one _)) (len47 (by have hl_x : ([] : List UInt8).length = 0 := (by first | (simp; done) | (simp [*]; done) | (simp; omega)); have hl_y : ((k.take (k.length / 64 * 64)) ++ (q.take (q.length / 64 * 64))).length = k.length / 64 * 64 + (q.length / 64 * 64) := (by have hl_p : (k.take (k.length / 64 * 64)).length = k.length / 64 * 64 := hkl; have hl_q : (q.take (q.length / 64 * 64)).length = q.length / 64 * 64 := hql; rw [List.length_append]; omega); first | omega | (simp; done) | (simp; omega))) (by have hl_x : ([] : List UInt8).length = 0 := (by first | (simp; done) | (simp [*]; done) | (simp; omega)); have hl_y : ((k.take (k.length / 64 * 64)) ++ (q.take (q.length / 64 * 64))).length = k.length / 64 * 64 + (q.length / 64 * 64) := (by have hl_p : (k.take (k.length / 64 * 64)).length = k.length / 64 * 64 := hkl; have hl_q : (q.take (q.length / 64 * 64)).length = q.length / 64 * 64 := hql; rw [List.length_append]; omega); first | omega | (simp; done) | (simp; omega)) (by intro X h; cases h; intro b hb; exact fun hv => ((apart_of_get hM.apart (i := 0) (j := 10) rfl rfl (by decide)).1 b hb).2 hv) rfl ?_; clear hE a; intro a v90 w26 hE hM'; clear hM; have hM := hM'; clear hM'
                  replace hM := Mem.ownNil (q := (k.take (k.length / 64 * 64)) ++ (q.take (q.length / 64 * 64))) hM rfl (by first | rfl | (simp; done))
                  refine q_nil (q_nx ?_)
                  refine o_re ?_
                  refine o_fl rfl ?_
                  refine q_nil (q_nx ?_)
                  refine o_fl rfl ?_
                  refine q_nil (q_nx ?_)
                  refine o_or rfl ?_ ?_
                  · obtain ⟨cr16, hrp16⟩ := rdv_get (hM.get 11 rfl) (i := i) (by omega)
                    refine s_append hE rfl rfl hM sl23 (Src.rd Tryd.underlying23 hrp16 (bv_one _)) (len47 (by have hl_x : ((k.take (k.length / 64 * 64)) ++ (q.take (q.length / 64 * 64))).length = k.length / 64 * 64 + (q.length / 64 * 64) := (by have hl_p : (k.take (k.length / 64 * 64)).length = k.length / 64 * 64 := hkl; have hl_q : (q.take (q.length / 64 * 64)).length = q.length / 64 * 64 := hql; rw [List.length_append]; omega); first | omega | (simp; done) | (simp; omega))) (by have hl_x : ((k.take (k.length / 64 * 64)) ++ (q.take (q.length / 64 * 64))).length = k.length / 64 * 64 + (q.length / 64 * 64) := (by have hl_p : (k.take (k.length / 64 * 64)).length = k.length / 64 * 64 := hkl; have hl_q : (q.take (q.length / 64 * 64)).length = q.length / 64 * 64 := hql; rw [List.length_append]; omega); first | omega | (simp; done) | (simp; omega)) (by intro X h; cases h; intro b hb; exact fun hv => ((apart_of_get hM.apart (i := 0) (j := 10) rfl rfl (by decide)).1 b hb).2 hv) rfl ?_; clear hE a; intro a v95 w27 hE hM'; clear hM; have hM := hM'; clear hM'
                    replace hM := Mem.ownApp (p := (k.take (k.length / 64 * 64)) ++ (q.take (q.length / 64 * 64))) (q := ps.getD i []) hM (by first | rfl | (simp; done))
                    refine q_nil (q_nx ?_)
                    refine o_re ?_
                    refine o_fl rfl ?_
                    refine q_nil (q_nx ?_)
                    refine o_fl rfl ?_
                    refine q_nil (q_nx ?_)
                    refine o_or rfl ?_ ?_
                    · obtain ⟨cq17, hq17⟩ := own_rd (hM.get 0 rfl)
                      refine s_call hE rfl Tryd.call20 (sha_c _ (((k.take (k.length / 64 * 64)) ++ (q.take (q.length / 64 * 64))) ++ (ps.getD i [])) _ _ (hM.get 12 rfl) hq17 (by have hl_ : (((k.take (k.length / 64 * 64)) ++ (q.take (q.length / 64 * 64))) ++ (ps.getD i [])).length = k.length / 64 * 64 + (q.length / 64 * 64) + ((ps.getD i []).length) := (by have hl_p : ((k.take (k.length / 64 * 64)) ++ (q.take (q.length / 64 * 64))).length = k.length / 64 * 64 + (q.length / 64 * 64) := (by have hl_p : (k.take (k.length / 64 * 64)).length = k.length / 64 * 64 := hkl; have hl_q : (q.take (q.length / 64 * 64)).length = q.length / 64 * 64 := hql; rw [List.length_append]; omega); rw [List.length_append]; omega); first | omega | (simp; done) | (simp; omega))) rfl ?_
                      rintro e w28 ⟨rfl, hN⟩
                      refine ⟨_, rfl, hN.sta0 _, ?_⟩; clear hE a; intro a hE
                      replace hM : Mem _ _ w28 [_, _, _, _, _, _, _, _, _, _, _, _, _, _] := hM.call0 hN trivial; clear hN
                      refine q_nil (q_nx ?_)
                      refine o_re ?_
                      refine o_fl rfl ?_
                      refine q_nil (q_nx ?_)
                      refine o_fl rfl ?_
                      refine q_nil (q_nx ?_)
                      refine o_or rfl ?_ ?_
                      · refine s_alloc [32] hE hM zero35 rfl rfl ?_; clear hE a; intro a b16 w29 hE hM'
                        clear hM; have hM := hM'; clear hM'
                        refine q_nil (q_nx ?_)
                        refine o_cut (fun _ => True) ?_
                        refine o_re ?_
                        refine o_fl rfl ?_
                        refine q_nil (q_nx ?_)
                        refine o_fl rfl ?_
                        refine q_nil (q_nx ?_)
                        refine o_weak (fun b => b = b16) (fun _ _ => trivial) ?_
                        refine o_or rfl ?_ ?_
                        · refine s_storeSeg 0 hE rfl rfl hM rfl sz35 ((bv_length _).trans (shaW_length _)) (bv_one _) rfl ((bv_length _).trans (by first | (simp; done) | (simp [*]; done) | (simp; omega))) rfl (by intro X h; cases h; rfl) ?_; intro w30 hM'; clear hM; have hM := hM'; clear hM'
                          simp only [List.set_cons_zero, List.set_cons_succ] at hM
                          refine q_nil (q_nx ?_)
                          refine o_cut (fun _ => True) ?_
                          refine o_re ?_
                          refine o_weak (fun _ => False) (fun _ _ => trivial) ?_
                          refine o_leaf rfl rfl ?_
                          refine q_nil (q_ph (q_nil ?_))
                          replace hE : Env a 130 [(0, _), (1, _), (2, _), (6, _), (7, _), (9, _), (10, _), (12, _), (13, _), (14, _), (15, _), (16, _), (29, _), (55, _), (57, _), (81, _), (85, _)] := hE.sel [0, 1, 2, 6, 7, 9, 10, 12, 13, 14, 15, 16, 29, 55, 57, 81, 85] rfl
                          replace hM : Mem _ _ w30 [_, _, _, _, _, _, _, _, _, _, _, _, _, _, _] := hM.pick [0, 1, 2, 3, 4, 5, 6, 7, 8, 9, 10, 11, 12, 13, 14] rfl
                          refine q_then_n ⟨_, _, hE.sel [0, 1, 2, 6, 7, 9, 10, 12, 13, 14, 15, 16, 29, 55, 57, 81, 85] rfl, hM⟩
                        trivial
                      trivial
                    refine o_or rfl ?_ ?_
                    · refine s_alloc [32] hE hM zero35 rfl rfl ?_; clear hE a; intro a b16 w28 hE hM'
                      clear hM; have hM := hM'; clear hM'
                      refine q_nil (q_nx ?_)
                      refine o_cut (fun _ => True) ?_
                      refine o_re ?_
                      refine o_fl rfl ?_
                      refine q_nil (q_nx ?_)
                      refine o_fl rfl ?_
                      refine q_nil (q_nx ?_)
                      refine o_or rfl ?_ ?_
                      · obtain ⟨cq18, hq18⟩ := own_rd (hM.get 1 rfl)
                        refine s_call hE rfl Tryd.call20 (sha_c _ (((k.take (k.length / 64 * 64)) ++ (q.take (q.length / 64 * 64))) ++ (ps.getD i [])) _ _ (hM.get 13 rfl) hq18 (by have hl_ : (((k.take (k.length / 64 * 64)) ++ (q.take (q.length / 64 * 64))) ++ (ps.getD i [])).length = k.length / 64 * 64 + (q.length / 64 * 64) + ((ps.getD i []).length) := (by have hl_p : ((k.take (k.length / 64 * 64)) ++ (q.take (q.length / 64 * 64))).length = k.length / 64 * 64 + (q.length / 64 * 64) := (by have hl_p : (k.take (k.length / 64 * 64)).length = k.length / 64 * 64 := hkl; have hl_q : (q.take (q.length / 64 * 64)).length = q.length / 64 * 64 := hql; rw [List.length_append]; omega); rw [List.length_append]; omega); first | omega | (simp; done) | (simp; omega))) rfl ?_
                        rintro e w29 ⟨rfl, hN⟩
                        refine ⟨_, rfl, hN.sta0 _, ?_⟩; clear hE a; intro a hE
                        replace hM : Mem _ _ w29 [_, _, _, _, _, _, _, _, _, _, _, _, _, _, _] := hM.call0 hN trivial; clear hN
                        refine q_nil (q_nx ?_)
                        refine o_re ?_
                        refine o_fl rfl ?_
                        refine q_nil (q_nx ?_)
                        refine o_fl rfl ?_
                        refine q_nil (q_nx ?_)
                        refine o_weak (fun b => b = b16) (fun _ _ => trivial) ?_
                        refine o_or rfl ?_ ?_
                        · refine s_storeSeg 0 hE rfl rfl hM rfl sz35 ((bv_length _).trans (shaW_length _)) (bv_one _) rfl ((bv_length _).trans (by first | (simp; done) | (simp [*]; done) | (simp; omega))) rfl (by intro X h; cases h; rfl) ?_; intro w30 hM'; clear hM; have hM := hM'; clear hM'
                          simp only [List.set_cons_zero, List.set_cons_succ] at hM
                          refine q_nil (q_nx ?_)
                          refine o_cut (fun _ => True) ?_
                          refine o_re ?_
                          refine o_weak (fun _ => False) (fun _ _ => trivial) ?_
                          refine o_leaf rfl rfl ?_
                          refine q_nil (q_ph (q_nil ?_))
                          replace hE : Env a 130 [(0, _), (1, _), (2, _), (6, _), (7, _), (9, _), (10, _), (12, _), (13, _), (14, _), (15, _), (16, _), (29, _), (55, _), (57, _), (81, _), (85, _)] := hE.sel [0, 1, 2, 6, 7, 9, 10, 12, 13, 14, 15, 16, 29, 55, 57, 81, 85] rfl
                          replace hM : Mem _ _ w30 [_, _, _, _, _, _, _, _, _, _, _, _, _, _, _] := hM.pick [0, 1, 2, 3, 4, 5, 6, 7, 8, 9, 10, 11, 12, 13, 14] rfl
                          refine q_then_n ⟨_, _, hE.sel [0, 1, 2, 6, 7, 9, 10, 12, 13, 14, 15, 16, 29, 55, 57, 81, 85] rfl, hM⟩
                        trivial
                      trivial
                    trivial
                  refine o_or rfl ?_ ?_
                  · refine s_alloc [32] hE hM zero35 rfl rfl ?_; clear hE a; intro a b16 w27 hE hM'
                    clear hM; have hM := hM'; clear hM'
                    refine q_nil (q_nx ?_)
                    refine o_cut (fun _ => True) ?_
                    refine o_re ?_
                    refine o_fl rfl ?_
                    refine q_nil (q_nx ?_)
                    refine o_fl rfl ?_
                    refine q_nil (q_nx ?_)
                    refine o_weak (fun b => b ∈ valBlocks v90) (fun _ _ => trivial) ?_
                    refine o_or rfl ?_ ?_
                    · replace hM : Mem _ _ w27 [_, _, _, _, _, _, _, _, _, _, _, _, _, _, _] := hM.pick [1, 0, 2, 3, 4, 5, 6, 7, 8, 9, 10, 11, 12, 13, 14] rfl
                      obtain ⟨cr19, hrp19⟩ := rdv_get (hM.get 12 rfl) (i := i) (by omega)
                      refine s_append hE rfl rfl hM sl23 (Src.rd Tryd.underlying23 hrp19 (bv_one _)) (len47 (by have hl_x : ((k.take (k.length / 64 * 64)) ++ (q.take (q.length / 64 * 64))).length = k.length / 64 * 64 + (q.length / 64 * 64) := (by have hl_p : (k.take (k.length / 64 * 64)).length = k.length / 64 * 64 := hkl; have hl_q : (q.take (q.length / 64 * 64)).length = q.length / 64 * 64 := hql; rw [List.length_append]; omega); first | omega | (simp; done) | (simp; omega))) (by have hl_x : ((k.take (k.length / 64 * 64)) ++ (q.take (q.length / 64 * 64))).length = k.length / 64 * 64 + (q.length / 64 * 64) := (by have hl_p : (k.take (k.length / 64 * 64)).length = k.length / 64 * 64 := hkl; have hl_q : (q.take (q.length / 64 * 64)).length = q.length / 64 * 64 := hql; rw [List.length_append]; omega); first | omega | (simp; done) | (simp; omega)) (by intro X h; cases h; exact fun _ hb => hb) rfl ?_; clear hE a; intro a v95 w28 hE hM'; clear hM; have hM := hM'; clear hM'
                      replace hM := Mem.ownApp (p := (k.take (k.length / 64 * 64)) ++ (q.take (q.length / 64 * 64))) (q := ps.getD i []) hM (by first | rfl | (simp; done))
                      refine q_nil (q_nx ?_)
                      refine o_cut (fun _ => True) ?_
                      refine o_re ?_
                      refine o_fl rfl ?_
                      refine q_nil (q_nx ?_)
                      refine o_fl rfl ?_
                      refine q_nil (q_nx ?_)
                      refine o_or rfl ?_ ?_
                      · obtain ⟨cq20, hq20⟩ := own_rd (hM.get 0 rfl)
                        refine s_call hE rfl Tryd.call20 (sha_c _ (((k.take (k.length / 64 * 64)) ++ (q.take (q.length / 64 * 64))) ++ (ps.getD i [])) _ _ (hM.get 13 rfl) hq20 (by have hl_ : (((k.take (k.length / 64 * 64)) ++ (q.take (q.length / 64 * 64))) ++ (ps.getD i [])).length = k.length / 64 * 64 + (q.length / 64 * 64) + ((ps.getD i []).length) := (by have hl_p : ((k.take (k.length / 64 * 64)) ++ (q.take (q.length / 64 * 64))).length = k.length / 64 * 64 + (q.length / 64 * 64) := (by have hl_p : (k.take (k.length / 64 * 64)).length = k.length / 64 * 64 := hkl; have hl_q : (q.take (q.length / 64 * 64)).length = q.length / 64 * 64 := hql; rw [List.length_append]; omega); rw [List.length_append]; omega); first | omega | (simp; done) | (simp; omega))) rfl ?_
                        rintro e w29 ⟨rfl, hN⟩
                        refine ⟨_, rfl, hN.sta0 _, ?_⟩; clear hE a; intro a hE
                        replace hM : Mem _ _ w29 [_, _, _, _, _, _, _, _, _, _, _, _, _, _, _] := hM.call0 hN trivial; clear hN
                        refine q_nil (q_nx ?_)
                        refine o_re ?_
                        refine o_fl rfl ?_
                        refine q_nil (q_nx ?_)
                        refine o_fl rfl ?_
                        refine q_nil (q_nx ?_)
                        refine o_weak (fun b => b = b16) (fun _ _ => trivial) ?_
                        refine o_or rfl ?_ ?_
                        · replace hM : Mem _ _ w29 [_, _, _, _, _, _, _, _, _, _, _, _, _, _, _] := hM.pick [1, 0, 2, 3, 4, 5, 6, 7, 8, 9, 10, 11, 12, 13, 14] rfl
                          refine s_storeSeg 0 hE rfl rfl hM rfl sz35 ((bv_length _).trans (shaW_length _)) (bv_one _) rfl ((bv_length _).trans (by first | (simp; done) | (simp [*]; done) | (simp; omega))) rfl (by intro X h; cases h; rfl) ?_; intro w30 hM'; clear hM; have hM := hM'; clear hM'
                          simp only [List.set_cons_zero, List.set_cons_succ] at hM
                          refine q_nil (q_nx ?_)
                          refine o_cut (fun _ => True) ?_
                          refine o_re ?_
                          refine o_weak (fun _ => False) (fun _ _ => trivial) ?_
                          refine o_leaf rfl rfl ?_
                          refine q_nil (q_ph (q_nil ?_))
                          replace hE : Env a 130 [(0, _), (1, _), (2, _), (6, _), (7, _), (9, _), (10, _), (12, _), (13, _), (14, _), (15, _), (16, _), (29, _), (55, _), (57, _), (81, _), (85, _)] := hE.sel [0, 1, 2, 6, 7, 9, 10, 12, 13, 14, 15, 16, 29, 55, 57, 81, 85] rfl
                          replace hM : Mem _ _ w30 [_, _, _, _, _, _, _, _, _, _, _, _, _, _, _] := hM.pick [0, 1, 2, 3, 4, 5, 6, 7, 8, 9, 10, 11, 12, 13, 14] rfl
                          refine q_then_n ⟨_, _, hE.sel [0, 1, 2, 6, 7, 9, 10, 12, 13, 14, 15, 16, 29, 55, 57, 81, 85] rfl, hM⟩
                        trivial
                      trivial
                    trivial
                  trivial
                refine o_or rfl ?_ ?_
                · refine s_alloc [32] hE hM zero35 rfl rfl ?_; clear hE a; intro a b16 w26 hE hM'
                  clear hM; have hM := hM'; clear hM'
                  refine q_nil (q_nx ?_)
                  refine o_re ?_
                  refine o_fl rfl ?_
                  refine q_nil (q_nx ?_)
                  refine o_fl rfl ?_
                  refine q_nil (q_nx ?_)
                  refine o_or rfl ?_ ?_
                  · replace hM : Mem _ _ w26 [_, _, _, _, _, _, _, _, _, _, _, _, _, _, _] := hM.pick [1, 0, 2, 3, 4, 5, 6, 7, 8, 9, 10, 11, 12, 13, 14] rfl
                    obtain ⟨cq21, hq21⟩ := own_rd (hM.get 4 rfl)
                    refine s_append hE rfl rfl hM sl23 (Src.rd Tryd.underlying23 hq21 (bv_one _)) (len47 (by have hl_x : ([] : List UInt8).length = 0 := (by first | (simp; done) | (simp [*]; done) | (simp; omega)); have hl_y : ((k.take (k.length / 64 * 64)) ++ (q.take (q.length / 64 * 64))).length = k.length / 64 * 64 + (q.length / 64 * 64) := (by have hl_p : (k.take (k.length / 64 * 64)).length = k.length / 64 * 64 := hkl; have hl_q : (q.take (q.length / 64 * 64)).length = q.length / 64 * 64 := hql; rw [List.length_append]; omega); first | omega | (simp; done) | (simp; omega))) (by have hl_x : ([] : List UInt8).length = 0 := (by first | (simp; done) | (simp [*]; done) | (simp; omega)); have hl_y : ((k.take (k.length / 64 * 64)) ++ (q.take (q.length / 64 * 64))).length = k.length / 64 * 64 + (q.length / 64 * 64) := (by have hl_p : (k.take (k.length / 64 * 64)).length = k.length / 64 * 64 := hkl; have hl_q : (q.take (q.length / 64 * 64)).length = q.length / 64 * 64 := hql; rw [List.length_append]; omega); first | omega | (simp; done) | (simp; omega)) (by intro X h; cases h; intro b hb; exact fun hv => ((apart_of_get hM.apart (i := 0) (j := 11) rfl rfl (by decide)).1 b hb).2 hv) rfl ?_; clear hE a; intro a v90 w27 hE hM'; clear hM; have hM := hM'; clear hM'
                    replace hM := Mem.ownNil (q := (k.take (k.length / 64 * 64)) ++ (q.take (q.length / 64 * 64))) hM rfl (by first | rfl | (simp; done))
                    refine q_nil (q_nx ?_)
                    refine o_cut (fun _ => True) ?_
                    refine o_re ?_
                    refine o_fl rfl ?_
                    refine q_nil (q_nx ?_)
                    refine o_fl rfl ?_
                    refine q_nil (q_nx ?_)
                    refine o_weak (fun b => b ∈ valBlocks v90) (fun _ _ => trivial) ?_
                    refine o_or rfl ?_ ?_
                    · obtain ⟨cr22, hrp22⟩ := rdv_get (hM.get 12 rfl) (i := i) (by omega)
                      refine s_append hE rfl rfl hM sl23 (Src.rd Tryd.underlying23 hrp22 (bv_one _)) (len47 (by have hl_x : ((k.take (k.length / 64 * 64)) ++ (q.take (q.length / 64 * 64))).length = k.length / 64 * 64 + (q.length / 64 * 64) := (by have hl_p : (k.take (k.length / 64 * 64)).length = k.length / 64 * 64 := hkl; have hl_q : (q.take (q.length / 64 * 64)).length = q.length / 64 * 64 := hql; rw [List.length_append]; omega); first | omega | (simp; done) | (simp; omega))) (by have hl_x : ((k.take (k.length / 64 * 64)) ++ (q.take (q.length / 64 * 64))).length = k.length / 64 * 64 + (q.length / 64 * 64) := (by have hl_p : (k.take (k.length / 64 * 64)).length = k.length / 64 * 64 := hkl; have hl_q : (q.take (q.length / 64 * 64)).length = q.length / 64 * 64 := hql; rw [List.length_append]; omega); first | omega | (simp; done) | (simp; omega)) (by intro X h; cases h; exact fun _ hb => hb) rfl ?_; clear hE a; intro a v95 w28 hE hM'; clear hM; have hM := hM'; clear hM'
                      replace hM := Mem.ownApp (p := (k.take (k.length / 64 * 64)) ++ (q.take (q.length / 64 * 64))) (q := ps.getD i []) hM (by first | rfl | (simp; done))
                      refine q_nil (q_nx ?_)
                      refine o_cut (fun _ => True) ?_
                      refine o_re ?_
                      refine o_fl rfl ?_
                      refine q_nil (q_nx ?_)
                      refine o_fl rfl ?_
                      refine q_nil (q_nx ?_)
                      refine o_or rfl ?_ ?_
                      · obtain ⟨cq23, hq23⟩ := own_rd (hM.get 0 rfl)
                        refine s_call hE rfl Tryd.call20 (sha_c _ (((k.take (k.length / 64 * 64)) ++ (q.take (q.length / 64 * 64))) ++ (ps.getD i [])) _ _ (hM.get 13 rfl) hq23 (by have hl_ : (((k.take (k.length / 64 * 64)) ++ (q.take (q.length / 64 * 64))) ++ (ps.getD i [])).length = k.length / 64 * 64 + (q.length / 64 * 64) + ((ps.getD i []).length) := (by have hl_p : ((k.take (k.length / 64 * 64)) ++ (q.take (q.length / 64 * 64))).length = k.length / 64 * 64 + (q.length / 64 * 64) := (by have hl_p : (k.take (k.length / 64 * 64)).length = k.length / 64 * 64 := hkl; have hl_q : (q.take (q.length / 64 * 64)).length = q.length / 64 * 64 := hql; rw [List.length_append]; omega); rw [List.length_append]; omega); first | omega | (simp; done) | (simp; omega))) rfl ?_
                        rintro e w29 ⟨rfl, hN⟩
                        refine ⟨_, rfl, hN.sta0 _, ?_⟩; clear hE a; intro a hE
                        replace hM : Mem _ _ w29 [_, _, _, _, _, _, _, _, _, _, _, _, _, _, _] := hM.call0 hN trivial; clear hN
                        refine q_nil (q_nx ?_)
                        refine o_re ?_
                        refine o_fl rfl ?_
                        refine q_nil (q_nx ?_)
                        refine o_fl rfl ?_
                        refine q_nil (q_nx ?_)
                        refine o_weak (fun b => b = b16) (fun _ _ => trivial) ?_
                        refine o_or rfl ?_ ?_
                        · replace hM : Mem _ _ w29 [_, _, _, _, _, _, _, _, _, _, _, _, _, _, _] := hM.pick [1, 0, 2, 3, 4, 5, 6, 7, 8, 9, 10, 11, 12, 13, 14] rfl
                          refine s_storeSeg 0 hE rfl rfl hM rfl sz35 ((bv_length _).trans (shaW_length _)) (bv_one _) rfl ((bv_length _).trans (by first | (simp; done) | (simp [*]; done) | (simp; omega))) rfl (by intro X h; cases h; rfl) ?_; intro w30 hM'; clear hM; have hM := hM'; clear hM'
                          simp only [List.set_cons_zero, List.set_cons_succ] at hM
                          refine q_nil (q_nx ?_)
                          refine o_cut (fun _ => True) ?_
                          refine o_re ?_
                          refine o_weak (fun _ => False) (fun _ _ => trivial) ?_
                          refine o_leaf rfl rfl ?_
                          refine q_nil (q_ph (q_nil ?_))
                          replace hE : Env a 130 [(0, _), (1, _), (2, _), (6, _), (7, _), (9, _), (10, _), (12, _), (13, _), (14, _), (15, _), (16, _), (29, _), (55, _), (57, _), (81, _), (85, _)] := hE.sel [0, 1, 2, 6, 7, 9, 10, 12, 13, 14, 15, 16, 29, 55, 57, 81, 85] rfl
                          replace hM : Mem _ _ w30 [_, _, _, _, _, _, _, _, _, _, _, _, _, _, _] := hM.pick [0, 1, 2, 3, 4, 5, 6, 7, 8, 9, 10, 11, 12, 13, 14] rfl
                          refine q_then_n ⟨_, _, hE.sel [0, 1, 2, 6, 7, 9, 10, 12, 13, 14, 15, 16, 29, 55, 57, 81, 85] rfl, hM⟩
                        trivial
                      trivial
                    trivial
                  trivial
                trivial
              refine o_or rfl ?_ ?_
              · refine s_alloc [32] hE hM zero35 rfl rfl ?_; clear hE a; intro a b16 w25 hE hM'
                clear hM; have hM := hM'; clear hM'
                refine q_nil (q_nx ?_)
                refine o_re ?_
                refine o_fl rfl ?_
                refine q_nil (q_nx ?_)
                refine o_fl rfl ?_
                refine q_nil (q_nx ?_)
                refine o_or rfl ?_ ?_
                · refine s_buildSlice (xs := []) ([]) hE hM sl23 rfl rfl rfl (by intro v hv; cases hv) rfl rfl rfl rfl ?_; clear hE a; intro a v88 w26 hE hM'
                  clear hM; have hM := hM'; clear hM'
                  replace hM := hM.ownEq (m' := ([] : List UInt8).length) (cs' := bv ([] : List UInt8)) rfl rfl
                  refine q_nil (q_nx ?_)
                  refine o_re ?_
                  refine o_fl rfl ?_
                  refine q_nil (q_nx ?_)
                  refine o_fl rfl ?_
                  refine q_nil (q_nx ?_)
                  refine o_or rfl ?_ ?_
                  · obtain ⟨cq24, hq24⟩ := own_rd (hM.get 4 rfl)
                    refine s_append hE rfl rfl hM sl23 (Src.rd Tryd.underlying23 hq24 (bv_one _)) (len47 (by have hl_x : ([] : List UInt8).length = 0 := (by first | (simp; done) | (simp [*]; done) | (simp; omega)); have hl_y : ((k.take (k.length / 64 * 64)) ++ (q.take (q.length / 64 * 64))).length = k.length / 64 * 64 + (q.length / 64 * 64) := (by have hl_p : (k.take (k.length / 64 * 64)).length = k.length / 64 * 64 := hkl; have hl_q : (q.take (q.length / 64 * 64)).length = q.length / 64 * 64 := hql; rw [List.length_append]; omega); first | omega | (simp; done) | (simp; omega))) (by have hl_x : ([] : List UInt8).length = 0 := (by first | (simp; done) | (simp [*]; done) | (simp; omega)); have hl_y : ((k.take (k.length / 64 * 64)) ++ (q.take (q.length / 64 * 64))).length = k.length / 64 * 64 + (q.length / 64 * 64) := (by have hl_p : (k.take (k.length / 64 * 64)).length = k.length / 64 * 64 := hkl; have hl_q : (q.take (q.length / 64 * 64)).length = q.length / 64 * 64 := hql; rw [List.length_append]; omega); first | omega | (simp; done) | (simp; omega)) (by intro X h; cases h; intro b hb; exact fun hv => ((apart_of_get hM.apart (i := 0) (j := 11) rfl rfl (by decide)).1 b hb).2 hv) rfl ?_; clear hE a; intro a v90 w27 hE hM'; clear hM; have hM := hM'; clear hM'
                    replace hM := Mem.ownNil (q := (k.take (k.length / 64 * 64)) ++ (q.take (q.length / 64 * 64))) hM rfl (by first | rfl | (simp; done))
                    refine q_nil (q_nx ?_)
                    refine o_cut (fun _ => True) ?_
                    refine o_re ?_
                    refine o_fl rfl ?_
                    refine q_nil (q_nx ?_)
                    refine o_fl rfl ?_
                    refine q_nil (q_nx ?_)
                    refine o_weak (fun b => b ∈ valBlocks v90) (fun _ _ => trivial) ?_
                    refine o_or rfl ?_ ?_
                    · obtain ⟨cr25, hrp25⟩ := rdv_get (hM.get 12 rfl) (i := i) (by omega)
                      refine s_append hE rfl rfl hM sl23 (Src.rd Tryd.underlying23 hrp25 (bv_one _)) (len47 (by have hl_x : ((k.take (k.length / 64 * 64)) ++ (q.take (q.length / 64 * 64))).length = k.length / 64 * 64 + (q.length / 64 * 64) := (by have hl_p : (k.take (k.length / 64 * 64)).length = k.length / 64 * 64 := hkl; have hl_q : (q.take (q.length / 64 * 64)).length = q.length / 64 * 64 := hql; rw [List.length_append]; omega); first | omega | (simp; done) | (simp; omega))) (by have hl_x : ((k.take (k.length / 64 * 64)) ++ (q.take (q.length / 64 * 64))).length = k.length / 64 * 64 + (q.length / 64 * 64) := (by have hl_p : (k.take (k.length / 64 * 64)).length = k.length / 64 * 64 := hkl; have hl_q : (q.take (q.length / 64 * 64)).length = q.length / 64 * 64 := hql; rw [List.length_append]; omega); first | omega | (simp; done) | (simp; omega)) (by intro X h; cases h; exact fun _ hb => hb) rfl ?_; clear hE a; intro a v95 w28 hE hM'; clear hM; have hM := hM'; clear hM'
                      replace hM := Mem.ownApp (p := (k.take (k.length / 64 * 64)) ++ (q.take (q.length / 64 * 64))) (q := ps.getD i []) hM (by first | rfl | (simp; done))
                      refine q_nil (q_nx ?_)
                      refine o_cut (fun _ => True) ?_
                      refine o_re ?_
                      refine o_fl rfl ?_
                      refine q_nil (q_nx ?_)
                      refine o_fl rfl ?_
                      refine q_nil (q_nx ?_)
                      refine o_or rfl ?_ ?_
                      · obtain ⟨cq26, hq26⟩ := own_rd (hM.get 0 rfl)
                        refine s_call hE rfl Tryd.call20 (sha_c _ (((k.take (k.length / 64 * 64)) ++ (q.take (q.length / 64 * 64))) ++ (ps.getD i [])) _ _ (hM.get 13 rfl) hq26 (by have hl_ : (((k.take (k.length / 64 * 64)) ++ (q.take (q.length / 64 * 64))) ++ (ps.getD i [])).length = k.length / 64 * 64 + (q.length / 64 * 64) + ((ps.getD i []).length) := (by have hl_p : ((k.take (k.length / 64 * 64)) ++ (q.take (q.length / 64 * 64))).length = k.length / 64 * 64 + (q.length / 64 * 64) := (by have hl_p : (k.take (k.length / 64 * 64)).length = k.length / 64 * 64 := hkl; have hl_q : (q.take (q.length / 64 * 64)).length = q.length / 64 * 64 := hql; rw [List.length_append]; omega); rw [List.length_append]; omega); first | omega | (simp; done) | (simp; omega))) rfl ?_
                        rintro e w29 ⟨rfl, hN⟩
                        refine ⟨_, rfl, hN.sta0 _, ?_⟩; clear hE a; intro a hE
                        replace hM : Mem _ _ w29 [_, _, _, _, _, _, _, _, _, _, _, _, _, _, _] := hM.call0 hN trivial; clear hN
                        refine q_nil (q_nx ?_)
                        refine o_re ?_
                        refine o_fl rfl ?_
                        refine q_nil (q_nx ?_)
                        refine o_fl rfl ?_
                        refine q_nil (q_nx ?_)
                        refine o_weak (fun b => b = b16) (fun _ _ => trivial) ?_
                        refine o_or rfl ?_ ?_
                        · replace hM : Mem _ _ w29 [_, _, _, _, _, _, _, _, _, _, _, _, _, _, _] := hM.pick [1, 0, 2, 3, 4, 5, 6, 7, 8, 9, 10, 11, 12, 13, 14] rfl
                          refine s_storeSeg 0 hE rfl rfl hM rfl sz35 ((bv_length _).trans (shaW_length _)) (bv_one _) rfl ((bv_length _).trans (by first | (simp; done) | (simp [*]; done) | (simp; omega))) rfl (by intro X h; cases h; rfl) ?_; intro w30 hM'; clear hM; have hM := hM'; clear hM'
                          simp only [List.set_cons_zero, List.set_cons_succ] at hM
                          refine q_nil (q_nx ?_)
                          refine o_cut (fun _ => True) ?_
                          refine o_re ?_
                          refine o_weak (fun _ => False) (fun _ _ => trivial) ?_
                          refine o_leaf rfl rfl ?_
                          refine q_nil (q_ph (q_nil ?_))
                          replace hE : Env a 130 [(0, _), (1, _), (2, _), (6, _), (7, _), (9, _), (10, _), (12, _), (13, _), (14, _), (15, _), (16, _), (29, _), (55, _), (57, _), (81, _), (85, _)] := hE.sel [0, 1, 2, 6, 7, 9, 10, 12, 13, 14, 15, 16, 29, 55, 57, 81, 85] rfl
                          replace hM : Mem _ _ w30 [_, _, _, _, _, _, _, _, _, _, _, _, _, _, _] := hM.pick [0, 1, 2, 3, 4, 5, 6, 7, 8, 9, 10, 11, 12, 13, 14] rfl
                          refine q_then_n ⟨_, _, hE.sel [0, 1, 2, 6, 7, 9, 10, 12, 13, 14, 15, 16, 29, 55, 57, 81, 85] rfl, hM⟩
                        trivial
                      trivial
                    trivial
                  trivial
                trivial
              trivial
            clear hE hM a; rintro a w31 ⟨b16, v95, hE, hM⟩
            refine wp_seq_k (fun K22 hK22 => ?_)
            refine wp_treeM hM (by kernel_rfl) (fun _ => True) (fun _ => True) (.re [(1, true), (2, true), (3, true), (0, true), (4, true), (6, true), (5, false), (7, true), (8, true), (9, true), (10, true), (11, true), (12, true), (13, true), (15, true), (14, false), (16, true), (17, true), (18, true), (19, true), (21, true), (23, true), (24, true), (25, true), (26, true), (29, true), (20, false), (22, false), (27, false), (28, false), (30, true), (31, true)] (.fl 3 (.weak (.fl 3 (.or 5 (.cut (.re [(7, true), (8, true), (10, true), (11, true), (12, true), (9, true), (13, true), (15, true), (14, false), (16, true), (17, true), (18, true), (19, true), (21, true), (23, true), (24, true), (25, true), (26, true), (29, true), (20, false), (22, false), (27, false), (28, false), (30, true), (31, true)] (.fl 5 (.weak (.fl 3 (.or 14 (.cut (.re [(16, true), (17, true), (18, true), (21, true), (23, true), (24, true), (25, true), (19, true), (26, true), (29, true), (20, false), (22, false), (27, false), (28, false), (30, true), (31, true)] (.fl 7 (.weak (.fl 3 (.or 20 (.re [(22, false), (27, false), (28, false), (30, true), (31, true)] (.fl 0 (.fl 0 (.or 22 (.re [(27, false), (28, false), (30, true), (31, true)] (.fl 0 (.fl 0 (.or 27 (.re [(28, false), (30, true), (31, true)] (.leaf 3)) (.stop))))) (.stop))))) (.stop))))))) (.stop))))))) (.stop)))))) [(1, true), (2, true), (3, true), (0, true), (4, true), (6, true), (5, false), (7, true), (8, true), (9, true), (10, true), (11, true), (12, true), (13, true), (15, true), (14, false), (16, true), (17, true), (18, true), (19, true), (21, true), (23, true), (24, true), (25, true), (26, true), (29, true), (20, false), (22, false), (27, false), (28, false), (30, true), (31, true)] [(0, [(5, 0), (7, 5), (8, 5), (9, 8), (10, 8), (11, 8), (12, 8), (13, 8), (14, 8), (15, 8), (16, 8), (17, 8), (18, 17), (19, 18), (20, 18), (21, 18), (22, 18), (23, 18), (24, 18), (25, 24), (26, 25), (27, 26), (28, 27), (29, 18), (30, 18), (31, 18)]), (3, [(4, 3), (5, 4), (7, 5), (8, 5), (9, 8), (10, 8), (11, 8), (12, 8), (13, 8), (14, 8), (15, 8), (16, 8), (17, 8), (18, 17), (19, 18), (20, 18), (21, 18), (22, 18), (23, 18), (24, 18), (25, 24), (26, 25), (27, 26), (28, 27), (29, 18), (30, 18), (31, 18)]), (4, [(5, 4), (7, 5), (8, 5), (9, 8), (10, 8), (11, 8), (12, 8), (13, 8), (14, 8), (15, 8), (16, 8), (17, 8), (18, 17), (19, 18), (20, 18), (21, 18), (22, 18), (23, 18), (24, 18), (25, 24), (26, 25), (27, 26), (28, 27), (29, 18), (30, 18), (31, 18)]), (5, [(7, 5), (8, 5), (9, 8), (10, 8), (11, 8), (12, 8), (13, 8), (14, 8), (15, 8), (16, 8), (17, 8), (18, 17), (19, 18), (20, 18), (21, 18), (22, 18), (23, 18), (24, 18), (25, 24), (26, 25), (27, 26), (28, 27), (29, 18), (30, 18), (31, 18)]), (6, [(7, 6), (8, 7), (9, 8), (10, 8), (11, 8), (12, 8), (13, 8), (14, 8), (15, 8), (16, 8), (17, 8), (18, 17), (19, 18), (20, 18), (21, 18), (22, 18), (23, 18), (24, 18), (25, 24), (26, 25), (27, 26), (28, 27), (29, 18), (30, 18), (31, 18)]), (7, [(8, 7), (9, 8), (10, 8), (11, 8), (12, 8), (13, 8), (14, 8), (15, 8), (16, 8), (17, 8), (18, 17), (19, 18), (20, 18), (21, 18), (22, 18), (23, 18), (24, 18), (25, 24), (26, 25), (27, 26), (28, 27), (29, 18), (30, 18), (31, 18)]), (9, [(14, 9), (16, 14), (17, 16), (18, 17), (19, 18), (20, 18), (21, 18), (22, 18), (23, 18), (24, 18), (25, 24), (26, 25), (27, 26), (28, 27), (29, 18), (30, 18), (31, 18)]), (12, [(13, 12), (14, 13), (16, 14), (17, 16), (18, 17), (19, 18), (20, 18), (21, 18), (22, 18), (23, 18), (24, 18), (25, 24), (26, 25), (27, 26), (28, 27), (29, 18), (30, 18), (31, 18)]), (13, [(14, 13), (16, 14), (17, 16), (18, 17), (19, 18), (20, 18), (21, 18), (22, 18), (23, 18), (24, 18), (25, 24), (26, 25), (27, 26), (28, 27), (29, 18), (30, 18), (31, 18)]), (14, [(16, 14), (17, 16), (18, 14), (19, 18), (20, 18), (21, 18), (22, 18), (23, 18), (24, 18), (25, 24), (26, 25), (27, 26), (28, 27), (29, 18), (30, 18), (31, 18)]), (15, [(16, 15), (17, 16), (18, 17), (19, 18), (20, 18), (21, 18), (22, 18), (23, 18), (24, 18), (25, 24), (26, 25), (27, 26), (28, 27), (29, 18), (30, 18), (31, 18)]), (20, [(22, 20), (27, 22), (28, 27), (30, 28), (31, 30)]), (22, [(27, 22), (28, 27), (30, 28), (31, 30)]), (27, [(28, 27), (30, 28), (31, 30)]), (28, [(30, 28), (31, 30)])] (by kernel_rfl) ?_
            intro w32 hM' hww32; clear hM; have hM := hM'; clear hM'
            refine o_re ?_
            refine o_fl rfl ?_
            refine s_move hE rfl rfl ?_; clear hE a; intro a hE
            refine s_move hE rfl rfl ?_; clear hE a; intro a hE
            refine s_indexRd (j := i) hE rfl (hM.get 11 rfl) rfl slt38 (by first | rfl | omega) (by first | omega | (simp; omega) | (simp [*]; omega)) rfl ?_; clear hE a; intro a p100 hE hc100 hp100
            have hul100 : us.length = ps.length := (hM.get 12 rfl).2.1
            rw [elem1 (by omega)] at hc100
            refine q_nil (q_nx ?_)
            refine o_weak (fun _ => False) (fun _ _ => trivial) ?_
            refine o_fl rfl ?_
            refine s_loadN hE rfl (hM.get 2 rfl) row30 rfl (by intro X h; cases h; simp) rfl ?_; clear hE a; intro a hE
            refine s_loadAt1 hE rfl hc100 one23 (by intro X h; cases h; simp) rfl ?_; clear hE a; intro a hE
            refine s_loadN hE rfl (hM.get 0 rfl) row35 rfl (by intro X h; cases h; simp) rfl ?_; clear hE a; intro a hE
            refine q_nil (q_nx ?_)
            refine o_or rfl ?_ ?_
            · obtain ⟨cr27, hrp27⟩ := rdv_get (hM.get 12 rfl) (i := i) (by omega)
              refine s_call hE rfl Tryd.call19 (psums_c (pfM (pfA (k.take (k.length / 64 * 64))) (q.take (q.length / 64 * 64))) _ (ps.getD i []) _ _ (hM.get 13 rfl) hrp27 (pfM_ok (pfA_ok (by have hl_ : (k.take (k.length / 64 * 64)).length = k.length / 64 * 64 := hkl; first | omega | (simp; done) | (simp; omega))) (by rw [pfN_A hA]; omega)) (by first | omega | (simp; done) | (simp; omega))) rfl ?_
              rintro e w33 ⟨rfl, hN⟩
              refine ⟨_, rfl, hN.sta0 _, ?_⟩; clear hE a; intro a hE
              replace hM : Mem _ _ w33 [_, _, _, _, _, _, _, _, _, _, _, _, _, _, _] := hM.call0 hN trivial; clear hN
              refine q_nil (q_nx ?_)
              refine o_cut (fun _ => True) ?_
              refine o_re ?_
              refine o_fl rfl ?_
              refine s_bin hE rfl rfl (eqa35 (pfS_len ..) (shaW_length _)).2 rfl ?_; clear hE a; intro a hE
              refine s_move hE rfl rfl ?_; clear hE a; intro a hE
              replace hE := hE.cast 105 rfl (show _ = Value.bool false from (congrArg Value.bool (by rw [pfS_M hA hB]; simp)))
              refine g_yes hE rfl rfl ?_
              refine s_move hE rfl rfl ?_; clear hE a; intro a hE
              refine g_yes hE rfl rfl ?_
              refine s_move hE rfl rfl ?_; clear hE a; intro a hE
              refine g_yes hE rfl rfl ?_
              refine s_indexRd (j := i) hE rfl (hM.get 11 rfl) rfl slt38 (by first | rfl | omega) (by first | omega | (simp; omega) | (simp [*]; omega)) rfl ?_; clear hE a; intro a p109 hE hc109 hp109
              have hul109 : us.length = ps.length := (hM.get 12 rfl).2.1
              rw [elem1 (by omega)] at hc109
              refine q_nil (q_nx ?_)
              refine o_weak (fun _ => False) (fun _ _ => trivial) ?_
              refine o_fl rfl ?_
              refine g_yes hE rfl rfl ?_
              refine s_loadN hE rfl (hM.get 3 rfl) row30 rfl (by intro X h; cases h; simp) rfl ?_; clear hE a; intro a hE
              refine g_yes hE rfl rfl ?_
              refine s_loadAt1 hE rfl hc109 one23 (by intro X h; cases h; simp) rfl ?_; clear hE a; intro a hE
              refine g_yes hE rfl rfl ?_
              refine s_loadN hE rfl (hM.get 0 rfl) row35 rfl (by intro X h; cases h; simp) rfl ?_; clear hE a; intro a hE
              refine q_nil (q_nx ?_)
              refine o_or rfl ?_ ?_
              · refine g_yes hE rfl rfl ?_
                obtain ⟨cr28, hrp28⟩ := rdv_get (hM.get 12 rfl) (i := i) (by omega)
                refine s_call hE rfl Tryd.call19 (psums_c (pfA ((k.take (k.length / 64 * 64)) ++ (q.take (q.length / 64 * 64)))) _ (ps.getD i []) _ _ (hM.get 13 rfl) hrp28 (pfA_ok (by have hl_ : ((k.take (k.length / 64 * 64)) ++ (q.take (q.length / 64 * 64))).length = k.length / 64 * 64 + (q.length / 64 * 64) := (by have hl_p : (k.take (k.length / 64 * 64)).length = k.length / 64 * 64 := hkl; have hl_q : (q.take (q.length / 64 * 64)).length = q.length / 64 * 64 := hql; rw [List.length_append]; omega); first | omega | (simp; done) | (simp; omega))) (by first | omega | (simp; done) | (simp; omega))) rfl ?_
                rintro e w34 ⟨rfl, hN⟩
                refine ⟨_, rfl, hN.sta0 _, ?_⟩; clear hE a; intro a hE
                replace hM : Mem _ _ w34 [_, _, _, _, _, _, _, _, _, _, _, _, _, _, _] := hM.call0 hN trivial; clear hN
                refine q_nil (q_nx ?_)
                refine o_cut (fun _ => True) ?_
                refine o_re ?_
                refine o_fl rfl ?_
                refine g_yes hE rfl rfl ?_
                refine s_bin hE rfl rfl (eqa35 (pfS_len ..) (shaW_length _)).2 rfl ?_; clear hE a; intro a hE
                refine s_pickf hE rfl rfl rfl ?_; clear hE a; intro a hE
                refine s_move hE rfl rfl ?_; clear hE a; intro a hE
                replace hE := hE.cast 115 rfl (show _ = Value.bool false from (congrArg Value.bool (by rw [pfS_A hAB]; simp)))
                refine g_yes hE rfl rfl ?_
                refine s_move hE rfl rfl ?_; clear hE a; intro a hE
                refine g_yes hE rfl rfl ?_
                refine s_move hE rfl rfl ?_; clear hE a; intro a hE
                refine g_yes hE rfl rfl ?_
                refine s_move hE rfl rfl ?_; clear hE a; intro a hE
                refine g_yes hE rfl rfl ?_
                refine s_indexRd (j := i) hE rfl (hM.get 11 rfl) rfl slt38 (by first | rfl | omega) (by first | omega | (simp; omega) | (simp [*]; omega)) rfl ?_; clear hE a; intro a p122 hE hc122 hp122
                have hul122 : us.length = ps.length := (hM.get 12 rfl).2.1
                rw [elem1 (by omega)] at hc122
                refine q_nil (q_nx ?_)
                refine o_weak (fun b => b ≠ b7 ∧ b ≠ b16 ∧ b ∉ rdB vr cr) (fun _ _ => trivial) ?_
                refine o_fl rfl ?_
                refine g_yes hE rfl rfl ?_
                refine s_loadN hE rfl (hM.get 5 rfl) row30 rfl (by intro X h; cases h; simp) rfl ?_; clear hE a; intro a hE
                refine g_yes hE rfl rfl ?_
                refine s_loadAt1 hE rfl hc122 one23 (by intro X h; cases h; exact fun b hb hx => absurd (hp122 b hb) (by first | exact hx | exact hx.2 | exact hx.2.2 | exact hx.2.2.2 | exact hx.2.2.2.2)) rfl ?_; clear hE a; intro a hE
                refine g_yes hE rfl rfl ?_
                refine s_loadN hE rfl (hM.get 0 rfl) row35 rfl (by intro X h; cases h; simp) rfl ?_; clear hE a; intro a hE
                refine q_nil (q_nx ?_)
                refine o_or rfl ?_ ?_
                · refine g_yes hE rfl rfl ?_
                  refine s_buildSlice (xs := []) ([]) hE hM sl23 rfl rfl rfl (by intro v hv; cases hv) rfl rfl rfl rfl ?_; clear hE a; intro a v117 w35 hE hM'
                  clear hM; have hM := hM'; clear hM'
                  replace hM := hM.ownEq (m' := ([] : List UInt8).length) (cs' := bv ([] : List UInt8)) rfl rfl
                  refine q_nil (q_nx ?_)
                  refine o_re ?_
                  refine o_fl rfl ?_
                  refine q_nil (q_nx ?_)
                  refine o_fl rfl ?_
                  refine q_nil (q_nx ?_)
                  refine o_or rfl ?_ ?_
                  · refine g_yes hE rfl rfl ?_
                    refine s_append hE rfl rfl hM sl23 (Src.rd Tryd.underlying23 (hM.get 7 rfl) (bv_one _)) (len47 (by have hl_x : ([] : List UInt8).length = 0 := (by first | (simp; done) | (simp [*]; done) | (simp; omega)); have hl_y : (q.take (q.length / 64 * 64)).length = q.length / 64 * 64 := hql; first | omega | (simp; done) | (simp; omega))) (by have hl_x : ([] : List UInt8).length = 0 := (by first | (simp; done) | (simp [*]; done) | (simp; omega)); have hl_y : (q.take (q.length / 64 * 64)).length = q.length / 64 * 64 := hql; first | omega | (simp; done) | (simp; omega)) (by intro X h; cases h; intro b hb; exact ⟨fun e => ((apart_of_get hM.apart (i := 0) (j := 6) rfl rfl (by decide)).1 b hb).1 (by rw [e]; exact .head _), fun e => ((apart_of_get hM.apart (i := 0) (j := 1) rfl rfl (by decide)).1 b hb).1 (by rw [e]; exact .head _), fun hv => ((apart_of_get hM.apart (i := 0) (j := 12) rfl rfl (by decide)).1 b hb).2 hv⟩) rfl ?_; clear hE a; intro a v119 w36 hE hM'; clear hM; have hM := hM'; clear hM'
                    replace hM := Mem.ownNil (q := q.take (q.length / 64 * 64)) hM rfl (by first | rfl | (simp; done))
                    refine q_nil (q_nx ?_)
                    refine o_re ?_
                    refine o_fl rfl ?_
                    refine q_nil (q_nx ?_)
                    refine o_fl rfl ?_
                    refine q_nil (q_nx ?_)
                    refine o_or rfl ?_ ?_
                    · refine g_yes hE rfl rfl ?_
                      obtain ⟨cr29, hrp29⟩ := rdv_get (hM.get 13 rfl) (i := i) (by omega)
                      refine s_append hE rfl rfl hM sl23 (Src.rd Tryd.underlying23 hrp29 (bv_one _)) (len47 (by have hl_x : (q.take (q.length / 64 * 64)).length = q.length / 64 * 64 := hql; first | omega | (simp; done) | (simp; omega))) (by have hl_x : (q.take (q.length / 64 * 64)).length = q.length / 64 * 64 := hql; first | omega | (simp; done) | (simp; omega)) (by intro X h; cases h; intro b hb; exact ⟨fun e => ((apart_of_get hM.apart (i := 0) (j := 6) rfl rfl (by decide)).1 b hb).1 (by rw [e]; exact .head _), fun e => ((apart_of_get hM.apart (i := 0) (j := 1) rfl rfl (by decide)).1 b hb).1 (by rw [e]; exact .head _), fun hv => ((apart_of_get hM.apart (i := 0) (j := 12) rfl rfl (by decide)).1 b hb).2 hv⟩) rfl ?_; clear hE a; intro a v124 w37 hE hM'; clear hM; have hM := hM'; clear hM'
                      replace hM := Mem.ownApp (p := q.take (q.length / 64 * 64)) (q := ps.getD i []) hM (by first | rfl | (simp; done))
                      refine q_nil (q_nx ?_)
                      refine o_re ?_
                      refine o_leaf rfl rfl ?_
                      refine g_yes hE rfl rfl ?_
                      obtain ⟨cq30, hq30⟩ := own_rd (hM.get 0 rfl)
                      refine s_call hE rfl Tryd.call19 (psums_c (pfA (k.take (k.length / 64 * 64))) _ ((q.take (q.length / 64 * 64)) ++ (ps.getD i [])) _ _ (hM.get 14 rfl) hq30 (pfA_ok (by have hl_ : (k.take (k.length / 64 * 64)).length = k.length / 64 * 64 := hkl; first | omega | (simp; done) | (simp; omega))) (by have hl_ : ((q.take (q.length / 64 * 64)) ++ (ps.getD i [])).length = q.length / 64 * 64 + ((ps.getD i []).length) := (by have hl_p : (q.take (q.length / 64 * 64)).length = q.length / 64 * 64 := hql; rw [List.length_append]; omega); first | omega | (simp; done) | (simp; omega))) rfl ?_
                      rintro e w38 ⟨rfl, hN⟩
                      refine ⟨_, rfl, hN.sta0 _, ?_⟩; clear hE a; intro a hE
                      replace hM : Mem _ _ w38 [_, _, _, _, _, _, _, _, _, _, _, _, _, _, _, _] := hM.call0 hN trivial; clear hN
                      refine g_yes hE rfl rfl ?_
                      refine s_bin hE rfl rfl (eqa35 (pfS_len ..) (shaW_length _)).2 rfl ?_; clear hE a; intro a hE
                      refine s_pickf hE rfl rfl rfl ?_; clear hE a; intro a hE
                      refine q_nil (q_ph (q_nil ?_))
                      replace hE : Env a 130 [(0, _), (1, _), (2, _), (6, _), (7, _), (9, _), (10, _), (12, _), (13, _), (14, _), (15, _), (16, _), (29, _), (55, _), (57, _), (81, _), (85, _), (128, _)] := hE.sel [0, 1, 2, 6, 7, 9, 10, 12, 13, 14, 15, 16, 29, 55, 57, 81, 85, 128] rfl
                      refine hK22 _ _ ?_
                      replace hE := hE.cast 128 rfl (show _ = Value.bool false from (congrArg Value.bool (by rw [pfS_A hA, ← List.append_assoc]; simp)))
                      refine wp_cond_false (hE.eval rfl) ?_
                      refine wp_skip ?_
                      refine q_block_n ?_
                      refine hK21 _ _ ?_
                      refine wp_plain [true, true, true] rfl rfl ?_
                      refine s_move hE rfl rfl ?_; clear hE a; intro a hE
                      refine s_bin hE rfl rfl (show Bin _ _ _ _ _ (.int .i64 ((i + 1 : Nat) : Int)) from bin_add (by rw [wrap_i64 (by omega) (by omega)]; omega)) rfl ?_; clear hE a; intro a hE
                      refine s_assign hE rfl rfl ?_; clear hE a; intro a hE
                      refine q_nil ?_
                      replace hE : Env a 130 [(0, _), (1, _), (2, _), (6, _), (7, _), (9, _), (10, _), (12, _), (13, _), (14, _), (15, _), (16, _), (29, _), (55, _), (57, _), (81, _), (85, _), (128, _)] := hE.sel [0, 1, 2, 6, 7, 9, 10, 12, 13, 14, 15, 16, 29, 55, 57, 81, 85, 128] rfl
                      replace hE := hE.cast 15 rfl (show _ = Value.int .i64 (((i + 1) : Nat) : Int) from (congrArg _ (by omega)))
                      replace hM : Mem _ _ w38 [_, _, _, _, _, _, _, _, _, _, _, _, _] := hM.pick [3, 4, 5, 6, 7, 8, 9, 10, 11, 12, 13, 14, 15] rfl
                      exact ⟨i + 1, ⟨by omega, hE.sel [0, 1, 2, 6, 7, 9, 10, 12, 13, 14, 15, 29, 55, 57, 81] rfl, hM⟩, by omega⟩
                    trivial
                  trivial
                trivial
              trivial
            trivial
          · replace hE := hE'; clear hE'
            replace hb85 := of_decide_eq_false hb85
            replace hb85 : ¬ (i < ps.length) := by omega
            obtain rfl : ps.length = i := by omega
            refine wp_cond_false (hE.eval rfl) ?_
            refine wp_exit ?_
            refine q_then_e ?_
            refine q_then_e ?_
            refine q_block_x ?_
            refine q_block_n ?_
            refine hK14 _ _ ?_
            refine wp_plain [true, true, true] rfl rfl ?_
            refine s_move hE rfl rfl ?_; clear hE a; intro a hE
            refine s_bin hE rfl rfl (show Bin _ _ _ _ _ (.int .i64 ((j + 1 : Nat) : Int)) from bin_add (by rw [wrap_i64 (by omega) (by omega)]; omega)) rfl ?_; clear hE a; intro a hE
            refine s_assign hE rfl rfl ?_; clear hE a; intro a hE
            refine q_nil ?_
            replace hE : Env a 130 [(0, _), (1, _), (2, _), (6, _), (7, _), (9, _), (10, _), (12, _), (13, _), (14, _), (15, _), (29, _), (55, _), (57, _), (81, _), (85, _)] := hE.sel [0, 1, 2, 6, 7, 9, 10, 12, 13, 14, 15, 29, 55, 57, 81, 85] rfl
            replace hE := hE.cast 12 rfl (show _ = Value.int .i64 (((j + 1) : Nat) : Int) from (congrArg _ (by omega)))
            replace hM : Mem _ _ w23 [_, _, _, _, _, _, _, _, _, _, _, _] := hM.pick [1, 2, 3, 4, 5, 6, 7, 8, 9, 10, 11, 12] rfl
            exact ⟨j + 1, ⟨by omega, hE.sel [0, 1, 2, 6, 7, 9, 10, 12, 29, 55] rfl, hM⟩, by omega⟩
        · replace hE := hE'; clear hE'
          replace hb57 := of_decide_eq_false hb57
          replace hb57 : ¬ (j < 2) := by omega
          obtain rfl : 2 = j := by omega
          refine wp_cond_false (hE.eval rfl) ?_
          refine wp_exit ?_
          refine q_then_e ?_
          refine q_then_e ?_
          refine q_block_x ?_
          refine hK10 _ _ ?_
          refine wp_seq_k (fun K14 hK14 => ?_)
          refine wp_plain [false, true] rfl rfl ?_
          refine s_call hE rfl Tryd.call17 (awake3_c  _ (hM.get 10 rfl) (hM.get 11 rfl)) rfl ?_
          rintro e w16 ⟨rfl, hN⟩
          refine ⟨_, rfl, trivial, ?_⟩; clear hE a; intro a hE
          replace hM : Mem _ _ w16 [_, _, _, _, _, _, _, _, _, _, _, _] := hM.call0 hN trivial; clear hN
          refine s_assign hE rfl rfl ?_; clear hE a; intro a hE
          refine q_nil ?_
          replace hE : Env a 130 [(0, _), (1, _), (2, _), (6, _), (7, _), (9, _), (10, _), (12, _), (29, _), (55, _), (57, _)] := hE.sel [0, 1, 2, 6, 7, 9, 10, 12, 29, 55, 57] rfl
          refine hK14 _ _ ?_
          refine wp_ret ?_
          refine f_ret1 hE rfl rfl ?_
          exact ⟨(by first | rfl | (simp; done)), hM.pick [] rfl⟩
set_option maxRecDepth 100000 in
theorem shaOnce_lifted (os : Os) (started : os.Started) (H : Type) (enc : TypeId × Value → H) :
    ReturnsInHanded {} Tryd.checked os 4 .any (fun w args => (Rows.shaOnceSpec.pre enc Tryd.prog Tryd.f4 [] false w args ∧ laidMetH Tryd.prog Rows.shaOnceRow.laid w) ∧ sizedMet enc Tryd.prog Tryd.f4 (OpenSpec.ofChange Rows.shaOnceSpec) false w args) (Rows.shaOnceSpec.post enc Tryd.prog Tryd.f4 false true false false) := by
  refine law_liftedL (C := Tryd.checked) (fn := Tryd.f4) (l := Rows.shaOnceRow.laid) (by kernel_rfl) started (by kernel_rfl) Tryd.func4 rfl (fun ds hl => ?_) rfl Tryd.underlying4 (by kernel_rfl) (of_decide_eq_true (by kernel_rfl)) (by kernel_rfl)
    (ChangeSpec.witness_shaped (enc := enc) (C := Tryd.checked) (os := os) (X := fun w _ => laidMetH Tryd.prog Rows.shaOnceRow.laid w) false (World.laidAll Tryd.prog os Rows.shaOnceRow.laid) #[.slice none 0 0, .slice none 0 0, .slice none 0 0] 8 (World.laidAll_os _ _ _) (World.shaped_of_ZipB (by kernel_rfl) (by kernel_rfl)) (by kernel_rfl) (by kernel_rfl) (by kernel_rfl) (by rw [MakeChecks.laidMetH_plain _ _ _ (by kernel_rfl)]; exact laidMet_laidAll _ (by kernel_rfl) (by kernel_rfl))) ?_
  · rw [Tryd.params4] at hl
    match ds, hl with
    | [_, _, _], _ => rfl
  · intro W base args ds ps hval hA hw hL
    have hG := glb_of_laid (P := Tryd.prog) (g := 0) (t := 91) (e := 26) (by kernel_rfl) (by kernel_rfl) Tryd.underlying91 Tryd.underlying26 (by kernel_rfl) (by kernel_rfl) (by kernel_rfl) (show laidMet Tryd.prog (_ :: _) W from (laidMet_tail (laidMet_tail (laidMet_tail hL))))
    have hQ : tabQ.holds W := cells_of_laid (P := Tryd.prog) (g := 5) (t := 22) (e := 5) (n := 64) (by kernel_rfl) (by kernel_rfl) Tryd.underlying22 Tryd.underlying5 (by kernel_rfl) (by kernel_rfl) (by kernel_rfl) (show laidMet Tryd.prog (_ :: _) W from (laidMet_tail hL))
    rw [Tryd.params4] at hA hval hw
    obtain ⟨v0, vs0, d0, ds0, p0, q0, hargs, rfl, rfl, h0, r0⟩ := trodAll_cons hA
    obtain ⟨v1, vs1, d1, ds1, p1, q1, rfl, rfl, rfl, h1, r1⟩ := trodAll_cons r0
    obtain ⟨v2, vs2, d2, ds2, p2, q2, rfl, rfl, rfl, h2, r2⟩ := trodAll_cons r1
    obtain ⟨rfl, rfl, rfl⟩ := trodAll_nil r2
    obtain rfl : args = #[v0, v1, v2] := by cases args; simp_all
    obtain ⟨bs0, c0, hr0, hb0⟩ := arg_bytes Tryd.underlying23 Tryd.underlying5 (by kernel_rfl) (by kernel_rfl) (hval 0 23 v0 rfl rfl) h0 (fun m hm => hw m (by simp only [DataW.weightsEach, List.mem_append]; exact .inl hm))
    obtain ⟨bs1, c1, hr1, hb1⟩ := arg_bytes Tryd.underlying23 Tryd.underlying5 (by kernel_rfl) (by kernel_rfl) (hval 1 23 v1 rfl rfl) h1 (fun m hm => hw m (by simp only [DataW.weightsEach, List.mem_append]; exact .inr (.inl hm)))
    obtain ⟨us2, bb2, ps2, c2, hr2, hp2, hl2⟩ := arg_parts Tryd.underlying38 (by kernel_rfl) (by kernel_rfl) Tryd.underlying23 Tryd.underlying5 (by kernel_rfl) (by kernel_rfl) (hval 2 38 v2 rfl rfl) h2 (fun m hm => hw m (by simp only [DataW.weightsEach, List.mem_append]; exact .inr (.inr (.inl hm))))
    exact shaOnce_c v0 bs0 c0 v1 bs1 c1 v2 us2 ps2 bb2 c2 W hG hQ hr0 hr1 hr2 hp2

/-- The row's statement. -/
theorem shaOnce_row : Rows.ShaOnceSaid :=
  OpenClaim.holds_of_wide 4 Tryd.f4 rfl rfl rfl rfl rfl rfl rfl ⟨rfl, rfl, rfl, rfl, rfl⟩ rfl rfl rfl rfl rfl (by kernel_rfl) Tryd.func4 (by kernel_rfl)
    (of_decide_eq_true (by kernel_rfl)) (by unfold Func.isWrapper; first | (rw [if_pos (by decide +kernel)]; kernel_rfl) | (rw [if_neg (by decide +kernel)]; exact ⟨rfl, rfl⟩))
    (fun os started H enc _ => shaOnce_lifted os started H enc)

/-- The statement: the row, its listed variable tied to the program's text. -/
theorem shaOnce_holds : Rows.ShaOnceCardSaid :=
  Claim7.holds_tied_plain_at .later [] [.data, .data, .data, .data] true (true, "91cb5901f707df670105d5a20baa4ed90d479b7ccd219857a5a06152428abcb6") true
    shaOnce_row (fun _ h => by cases h) (by kernel_rfl) (fun _ h => by cases h) shaOnce_row_tie rfl ⟨rfl, rfl⟩ (by kernel_rfl) rfl
    (fun f fn hf hfn => by
      obtain rfl : f = 4 := Option.some.inj ((show Tryd.prog.funcNamed "casemate/casematelaw03.ShaOnce" = some 4 by kernel_rfl).symm.trans hf) |>.symm
      obtain rfl : fn = Tryd.f4 := (Option.some.inj (Tryd.func4.symm.trans hfn)).symm
      exact ⟨by kernel_rfl, fun j t ht => by
        rw [Tryd.params4] at ht
        have h : t ∈ [23, 23, 38] := by
          rcases j with _ | _ | _ | j
          · simp at ht; simp [ht]
          · simp at ht; simp [ht]
          · simp at ht; simp [ht]
          · simp at ht
        simp only [List.mem_cons, List.not_mem_nil, or_false] at h
        rcases h with rfl | rfl | rfl
        · exact (show Tryd.prog.wantsStandIn 23 = false by kernel_rfl)
        · exact (show Tryd.prog.wantsStandIn 23 = false by kernel_rfl)
        · exact (show Tryd.prog.wantsStandIn 38 = false by kernel_rfl)⟩)
    (by kernel_rfl)
#print axioms shaOnce_holds
end Go.Proofs.YtbjdbiljkkfklaaDoor
