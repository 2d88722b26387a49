/- RecordApart of casematelaw21 returns true for whatever two root records and two lists of writes; they read behind the call as before. No condition. -/
import Derived.Test.YtlieojojahhmmaaLw
set_option linter.unusedSimpArgs false
set_option linter.unusedVariables false
namespace Go.Proofs.Ytlieojojahhmmaa
open Go Go.Kx
open Go.ChangeShapes Go.WideShapes Go.ChangeAt Go.RowKit
theorem arr82 : arrT Try.prog 82 = some (2, 1) := by kernel_rfl
theorem one77 : OneT Try.prog 77 := OneT.of Try.underlying77 rfl (by kernel_rfl)
theorem recordApart_c (cA : Nat) (tA : List UInt8) (hA : List UInt8) (bA : List UInt8) (mA : Int) (yA : Int) (cB : Nat) (tB : List UInt8) (hB : List UInt8) (bB : List UInt8) (mB : Int) (yB : Int) (u : Value) (la : List Wr) (ca : Nat) (v : Value) (lb : List Wr) (cb : Nat) (w : World) (hl_tA : tA.length = 32) (hl_hA : hA.length = 32) (hl_bA : bA.length = 32) (hl_tB : tB.length = 32) (hl_hB : hB.length = 32) (hl_bB : bB.length = 32) (hr_la : (rd u 66 la.length ca (la.flatMap wcl)).holds w) (ho_la : ∀ x, x ∈ la → OkWr x) (hr_lb : (rd v 66 lb.length cb (lb.flatMap wcl)).holds w) (ho_lb : ∀ x, x ∈ lb → OkWr x) (hcA : cA < 18446744073709551616) (hmA : In64 mA) (hyA : In64 yA) (hcB : cB < 18446744073709551616) (hmB : In64 mB) (hyB : In64 yB) : Calls Try.prog 10 #[.agg ([[.int .u64 ((cA : Nat) : Int)], bv tA, bv hA, bv bA, [.int .i64 mA], [.int .i64 yA]] : List (List Value)).flatten.toArray, .agg ([[.int .u64 ((cB : Nat) : Int)], bv tB, bv hB, bv bB, [.int .i64 mB], [.int .i64 yB]] : List (List Value)).flatten.toArray, .agg ([[u], [v]] : List (List Value)).flatten.toArray] w fun e w' => e = .returned (.bool true) ∧ Mem w [] w' [] := by
  have hM : Mem w [] w [rd u 66 la.length ca (la.flatMap wcl), rd v 66 lb.length cb (lb.flatMap wcl)] := Mem.startR w (fun g hg => by
    simp only [List.mem_cons, List.not_mem_nil, or_false] at hg
    rcases hg with rfl | rfl
    · exact ⟨hr_la, rfl⟩
    · exact ⟨hr_lb, rfl⟩)
  refine f_enter 112 Try.func10 rfl rfl rfl ?_
  intro a hE
  replace hE : Env a 112 [(0, _), (1, _), (2, _)] := hE
  refine wp_seq_k (fun K1 hK1 => ?_)
  refine wp_plain [false, false, false, true] rfl rfl ?_
  refine s_box (ss := [[.int .u64 ((cA : Nat) : Int)], bv tA, bv hA, bv bA, [.int .i64 mA], [.int .i64 yA]]) [1, 32, 32, 32, 1, 1] hE hM rfl rfl (by simp [*]) rfl ?_; clear hE a; intro a b3 w1 hE hM'
  clear hM; have hM := hM'; clear hM'
  refine s_box (ss := [[.int .u64 ((cB : Nat) : Int)], bv tB, bv hB, bv bB, [.int .i64 mB], [.int .i64 yB]]) [1, 32, 32, 32, 1, 1] hE hM rfl rfl (by simp [*]) rfl ?_; clear hE a; intro a b4 w2 hE hM'
  clear hM; have hM := hM'; clear hM'
  refine s_box (ss := [[u], [v]]) [1, 1] hE hM rfl rfl (by simp [*]) rfl ?_; clear hE a; intro a b5 w3 hE hM'
  clear hM; have hM := hM'; clear hM'
  refine s_assign hE rfl rfl ?_; clear hE a; intro a hE
  refine q_nil ?_
  replace hE : Env a 112 [(3, _), (4, _), (5, _), (6, _)] := hE.sel [3, 4, 5, 6] rfl
  refine hK1 _ _ ?_
  refine wp_seq_k (fun K2 hK2 => ?_)
  refine wp_plain [true, false, true, true, true, true, true] rfl rfl ?_
  refine s_loadN hE rfl (hM.get 2 rfl) row67 rfl (by intro X h; cases h) rfl ?_; clear hE a; intro a hE
  replace hE := hE.cast 18 rfl (show _ = Value.agg ([[.int .u64 ((cA : Nat) : Int)], bv tA, bv hA, bv bA, [.int .i64 mA], [.int .i64 yA]] : List (List Value)).flatten.toArray from (by first | rfl | simp))
  refine s_call hE rfl Try.call26 (put_a cA tA hA bA mA yA _ hl_tA hl_hA hl_bA) rfl ?_
  rintro e w4 ⟨v19, rfl, hN⟩
  refine ⟨_, rfl, trivial, ?_⟩; clear hE a; intro a hE
  replace hM : Mem _ _ w4 [_, _, _, _, _, _] := hM.call0 hN ⟨rfl, trivial⟩; clear hN
  refine s_move hE rfl rfl ?_; clear hE a; intro a hE
  refine s_extract hE rfl rfl rfl ?_; clear hE a; intro a hE
  refine s_extract hE rfl rfl rfl ?_; clear hE a; intro a hE
  refine s_assign hE rfl rfl ?_; clear hE a; intro a hE
  refine s_assign hE rfl rfl ?_; clear hE a; intro a hE
  refine q_nil ?_
  replace hE : Env a 112 [(3, _), (4, _), (5, _), (6, _), (7, _), (8, _)] := hE.sel [3, 4, 5, 6, 7, 8] rfl
  refine hK2 _ _ ?_
  refine wp_seq_k (fun K3 hK3 => ?_)
  refine wp_plain [true, false, true, true, true, true, true] rfl rfl ?_
  refine s_loadN hE rfl (hM.get 2 rfl) row67 rfl (by intro X h; cases h) rfl ?_; clear hE a; intro a hE
  replace hE := hE.cast 23 rfl (show _ = Value.agg ([[.int .u64 ((cB : Nat) : Int)], bv tB, bv hB, bv bB, [.int .i64 mB], [.int .i64 yB]] : List (List Value)).flatten.toArray from (by first | rfl | simp))
  refine s_call hE rfl Try.call26 (put_a cB tB hB bB mB yB _ hl_tB hl_hB hl_bB) rfl ?_
  rintro e w5 ⟨v24, rfl, hN⟩
  refine ⟨_, rfl, trivial, ?_⟩; clear hE a; intro a hE
  replace hM : Mem _ _ w5 [_, _, _, _, _, _, _] := hM.call0 hN ⟨rfl, trivial⟩; clear hN
  refine s_move hE rfl rfl ?_; clear hE a; intro a hE
  refine s_extract hE rfl rfl rfl ?_; clear hE a; intro a hE
  refine s_extract hE rfl rfl rfl ?_; clear hE a; intro a hE
  refine s_assign hE rfl rfl ?_; clear hE a; intro a hE
  refine s_assign hE rfl rfl ?_; clear hE a; intro a hE
  refine q_nil ?_
  replace hE : Env a 112 [(3, _), (4, _), (5, _), (6, _), (7, _), (8, _), (9, _), (10, _)] := hE.sel [3, 4, 5, 6, 7, 8, 9, 10] rfl
  refine hK3 _ _ ?_
  refine wp_seq_k (fun K4 hK4 => ?_)
  refine wp_seq_k (fun K5 hK5 => ?_)
  refine wp_drawnM hM (by kernel_rfl) (fun _ => False) [(0, true), (1, true), (2, true), (3, true), (4, true), (5, true), (6, true), (7, true), (8, true), (9, true), (10, true), (11, true), (12, true), (13, true), (14, true), (15, true), (16, true)] [] (by kernel_rfl) rfl ?_
  intro w6 hM' hww6; clear hM; have hM := hM'; clear hM'
  refine s_move hE rfl rfl ?_; clear hE a; intro a hE
  refine s_bin hE rfl rfl bin_eql rfl ?_; clear hE a; intro a hE
  refine s_move hE rfl rfl ?_; clear hE a; intro a hE
  refine hE.split 29 rfl (fun hb29 hE' => ?_) (fun hb29 hE' => ?_)
  · replace hE := hE'; clear hE'
    replace hb29 := of_decide_eq_true hb29
    replace hb29 : (putE cA mA yA) = 0 := by omega
    refine g_yes hE rfl rfl ?_
    refine s_move hE rfl rfl ?_; clear hE a; intro a hE
    refine g_yes hE rfl rfl ?_
    refine s_bin hE rfl rfl bin_eql rfl ?_; clear hE a; intro a hE
    refine s_pickt hE rfl rfl rfl ?_; clear hE a; intro a hE
    refine s_move hE rfl rfl ?_; clear hE a; intro a hE
    refine hE.split 33 rfl (fun hb33 hE' => ?_) (fun hb33 hE' => ?_)
    · replace hE := hE'; clear hE'
      replace hb33 := of_decide_eq_true hb33
      replace hb33 : (putE cB mB yB) = 0 := by omega
      have hra := root_apartB (c := cA) (m := mA) (y := yA) (c' := cB) (m' := mB) (y' := yB) hl_tA hl_hA hl_bA hl_tB hl_hB hl_bB (by omega) (by omega)
      refine g_yes hE rfl rfl ?_
      refine s_move hE rfl rfl ?_; clear hE a; intro a hE
      refine g_yes hE rfl rfl ?_
      obtain ⟨cs35, hs35⟩ := own_rd (hM.get 1 rfl)
      refine s_toStr hE rfl Try.underlying55 Try.underlying5 Try.underlying9 hs35 (by intro X h; cases h; simp) rfl ?_; clear hE a; intro a hE
      refine g_yes hE rfl rfl ?_
      refine s_move hE rfl rfl ?_; clear hE a; intro a hE
      refine g_yes hE rfl rfl ?_
      obtain ⟨cs37, hs37⟩ := own_rd (hM.get 0 rfl)
      refine s_toStr hE rfl Try.underlying55 Try.underlying5 Try.underlying9 hs37 (by intro X h; cases h; simp) rfl ?_; clear hE a; intro a hE
      refine g_yes hE rfl rfl ?_
      refine s_bin hE rfl rfl bins_str.1 rfl ?_; clear hE a; intro a hE
      refine g_yes hE rfl rfl ?_
      refine s_loadN hE rfl (hM.get 4 rfl) row67 rfl (by intro X h; cases h; simp) rfl ?_; clear hE a; intro a hE
      replace hE := hE.cast 39 rfl (show _ = Value.agg ([[.int .u64 ((cA : Nat) : Int)], bv tA, bv hA, bv bA, [.int .i64 mA], [.int .i64 yA]] : List (List Value)).flatten.toArray from (by first | rfl | simp))
      refine g_yes hE rfl rfl ?_
      refine s_loadN hE rfl (hM.get 3 rfl) row67 rfl (by intro X h; cases h; simp) rfl ?_; clear hE a; intro a hE
      replace hE := hE.cast 40 rfl (show _ = Value.agg ([[.int .u64 ((cB : Nat) : Int)], bv tB, bv hB, bv bB, [.int .i64 mB], [.int .i64 yB]] : List (List Value)).flatten.toArray from (by first | rfl | simp))
      refine g_yes hE rfl rfl ?_
      refine s_bin hE rfl rfl ((eqk67 (b := decide ((((cA : Nat) : Int) : Int) = ((cB : Nat) : Int) ∧ tA = tB ∧ hA = hB ∧ bA = bB ∧ (mA : Int) = mB ∧ (yA : Int) = yB)) (kl67 (k := 0) (x0 := ((cA : Nat) : Int)) (x1 := tA) (x2 := hA) (x3 := bA) (x4 := mA) (x5 := yA) (by first | exact wf_i64 (by assumption) | (simp [Lit.wf, IntKind.min, IntKind.max, IntKind.signed, IntKind.bits]; try omega)) hl_tA hl_hA hl_bA (by first | exact wf_i64 (by assumption) | (simp [Lit.wf, IntKind.min, IntKind.max, IntKind.signed, IntKind.bits]; try omega)) (by first | exact wf_i64 (by assumption) | (simp [Lit.wf, IntKind.min, IntKind.max, IntKind.signed, IntKind.bits]; try omega))) (kl67 (k := 0) (x0 := ((cB : Nat) : Int)) (x1 := tB) (x2 := hB) (x3 := bB) (x4 := mB) (x5 := yB) (by first | exact wf_i64 (by assumption) | (simp [Lit.wf, IntKind.min, IntKind.max, IntKind.signed, IntKind.bits]; try omega)) hl_tB hl_hB hl_bB (by first | exact wf_i64 (by assumption) | (simp [Lit.wf, IntKind.min, IntKind.max, IntKind.signed, IntKind.bits]; try omega)) (by first | exact wf_i64 (by assumption) | (simp [Lit.wf, IntKind.min, IntKind.max, IntKind.signed, IntKind.bits]; try omega))) (by rw [flat_eq (by have hl_x1 : tA.length = 32 := hl_tA; have hl_x2 : hA.length = 32 := hl_hA; have hl_x3 : bA.length = 32 := hl_bA; have hl_y1 : tB.length = 32 := hl_tB; have hl_y2 : hB.length = 32 := hl_hB; have hl_y3 : bB.length = 32 := hl_bB; simp only [List.map_cons, List.map_nil, bv_length, List.length_cons, List.length_nil, hl_x1, hl_x2, hl_x3, hl_y1, hl_y2, hl_y3])]; simp [bv_iff, Int.ofNat_inj]; try omega)).1) rfl ?_; clear hE a; intro a hE
      refine g_yes hE rfl rfl ?_
      refine s_bin hE rfl rfl (bins_bool Try.underlying4).2 rfl ?_; clear hE a; intro a hE
      refine s_pickt hE rfl rfl rfl ?_; clear hE a; intro a hE
      refine q_nil ?_
      replace hE : Env a 112 [(3, _), (4, _), (5, _), (6, _), (43, _)] := hE.sel [3, 4, 5, 6, 43] rfl
      refine hK5 _ _ ?_
      replace hE := hE.cast 43 rfl (show _ = Value.bool false from (congrArg Value.bool (by show (!(decide (putL cA tA hA bA mA yA = putL cB tB hB bB mB yB) == _)) = false; rw [hra]; simp)))
      refine wp_cond_false (hE.eval rfl) ?_
      refine wp_skip ?_
      refine hK4 _ _ ?_
      refine wp_seq_k (fun K6 hK6 => ?_)
      refine wp_seq_k (fun K7 hK7 => ?_)
      refine wp_plain [true, true, true, true, true, true, true, true, true, true] rfl rfl ?_
      refine s_indexArr (j := 0) hE rfl rfl arr82 rfl (by decide) rfl ?_; clear hE a; intro a hE
      refine s_load1 hE rfl (hM.get 2 rfl) rfl one77 (by intro X h; cases h) rfl ?_; clear hE a; intro a hE
      refine s_len hE rfl Try.underlying77 (rd_slice (hM.get 5 rfl)) rfl ?_; clear hE a; intro a hE
      refine s_bin hE rfl rfl bin_gtr rfl ?_; clear hE a; intro a hE
      refine s_move hE rfl rfl ?_; clear hE a; intro a hE
      refine hE.split 48 rfl (fun hb48 hE' => ?_) (fun hb48 hE' => ?_)
      · replace hE := hE'; clear hE'
        replace hb48 := of_decide_eq_true hb48
        replace hb48 : 30 < la.length := by omega
        refine g_no (b := true) hE rfl rfl rfl ?_; clear hE a; intro a hE
        refine g_no (b := true) hE rfl rfl rfl ?_; clear hE a; intro a hE
        refine g_no (b := true) hE rfl rfl rfl ?_; clear hE a; intro a hE
        refine g_no (b := true) hE rfl rfl rfl ?_; clear hE a; intro a hE
        refine s_pickt hE rfl rfl rfl ?_; clear hE a; intro a hE
        refine q_nil ?_
        replace hE : Env a 112 [(3, _), (4, _), (5, _), (6, _), (43, _), (53, _)] := hE.sel [3, 4, 5, 6, 43, 53] rfl
        refine hK7 _ _ ?_
        refine wp_cond_true (hE.eval rfl) ?_
        refine wp_seq_k (fun K8 hK8 => ?_)
        refine wp_plain [false, true] rfl rfl ?_
        refine s_call hE rfl Try.call30 (awake21_c  _ ) rfl ?_
        rintro e w7 ⟨rfl, hN⟩
        refine ⟨_, rfl, trivial, ?_⟩; clear hE a; intro a hE
        replace hM : Mem _ _ w7 [_, _, _, _, _, _, _] := hM.call0 hN trivial; clear hN
        refine s_assign hE rfl rfl ?_; clear hE a; intro a hE
        refine q_nil ?_
        replace hE : Env a 112 [(3, _), (4, _), (5, _), (6, _), (43, _), (53, _)] := hE.sel [3, 4, 5, 6, 43, 53] rfl
        refine hK8 _ _ ?_
        refine wp_ret ?_
        refine q_then_r ?_
        refine f_ret1 hE rfl rfl ?_
        exact ⟨(by first | rfl | (simp; done)), hM.pick [] rfl⟩
      · replace hE := hE'; clear hE'
        replace hb48 := of_decide_eq_false hb48
        replace hb48 : ¬ (30 < la.length) := by omega
        refine g_yes hE rfl rfl ?_
        refine s_indexArr (j := 1) hE rfl rfl arr82 rfl (by decide) rfl ?_; clear hE a; intro a hE
        refine g_yes hE rfl rfl ?_
        refine s_load1 hE rfl (hM.get 2 rfl) rfl one77 (by intro X h; cases h) rfl ?_; clear hE a; intro a hE
        refine g_yes hE rfl rfl ?_
        refine s_len hE rfl Try.underlying77 (rd_slice (hM.get 6 rfl)) rfl ?_; clear hE a; intro a hE
        refine g_yes hE rfl rfl ?_
        refine s_bin hE rfl rfl bin_gtr rfl ?_; clear hE a; intro a hE
        refine s_pickf hE rfl rfl rfl ?_; clear hE a; intro a hE
        refine q_nil ?_
        replace hE : Env a 112 [(3, _), (4, _), (5, _), (6, _), (43, _), (53, _)] := hE.sel [3, 4, 5, 6, 43, 53] rfl
        refine hK7 _ _ ?_
        refine hE.split 53 rfl (fun hb53 hE' => ?_) (fun hb53 hE' => ?_)
        · replace hE := hE'; clear hE'
          replace hb53 := of_decide_eq_true hb53
          replace hb53 : 30 < lb.length := by omega
          refine wp_cond_true (hE.eval rfl) ?_
          refine wp_seq_k (fun K8 hK8 => ?_)
          refine wp_plain [false, true] rfl rfl ?_
          refine s_call hE rfl Try.call30 (awake21_c  _ ) rfl ?_
          rintro e w7 ⟨rfl, hN⟩
          refine ⟨_, rfl, trivial, ?_⟩; clear hE a; intro a hE
          replace hM : Mem _ _ w7 [_, _, _, _, _, _, _] := hM.call0 hN trivial; clear hN
          refine s_assign hE rfl rfl ?_; clear hE a; intro a hE
          refine q_nil ?_
          replace hE : Env a 112 [(3, _), (4, _), (5, _), (6, _), (43, _), (53, _)] := hE.sel [3, 4, 5, 6, 43, 53] rfl
          refine hK8 _ _ ?_
          refine wp_ret ?_
          refine q_then_r ?_
          refine f_ret1 hE rfl rfl ?_
          exact ⟨(by first | rfl | (simp; done)), hM.pick [] rfl⟩
        · replace hE := hE'; clear hE'
          replace hb53 := of_decide_eq_false hb53
          replace hb53 : ¬ (30 < lb.length) := by omega
          refine wp_cond_false (hE.eval rfl) ?_
          refine wp_skip ?_
          refine hK6 _ _ ?_
          refine wp_seq_k (fun K8 hK8 => ?_)
          refine wp_plain [true, true, false, true, true, true, true, true] rfl rfl ?_
          refine s_indexArr (j := 0) hE rfl rfl arr82 rfl (by decide) rfl ?_; clear hE a; intro a hE
          refine s_load1 hE rfl (hM.get 2 rfl) rfl one77 (by intro X h; cases h) rfl ?_; clear hE a; intro a hE
          refine s_call hE rfl Try.call31 (putwrites_c _ la _ _ (hM.get 5 rfl) ho_la) rfl ?_
          rintro e w7 ⟨v58_0, rfl, hN⟩
          refine ⟨_, rfl, trivial, ?_⟩; clear hE a; intro a hE
          replace hM : Mem _ _ w7 [_, _, _, _, _, _, _, _] := hM.call0 hN ⟨rfl, trivial⟩; clear hN
          refine s_move hE rfl rfl ?_; clear hE a; intro a hE
          refine s_extract hE rfl rfl rfl ?_; clear hE a; intro a hE
          refine s_extract hE rfl rfl rfl ?_; clear hE a; intro a hE
          refine s_assign hE rfl rfl ?_; clear hE a; intro a hE
          refine s_assign hE rfl rfl ?_; clear hE a; intro a hE
          refine q_nil ?_
          replace hE : Env a 112 [(3, _), (4, _), (5, _), (6, _), (11, _), (12, _), (43, _), (53, _)] := hE.sel [3, 4, 5, 6, 11, 12, 43, 53] rfl
          refine hK8 _ _ ?_
          refine wp_seq_k (fun K9 hK9 => ?_)
          refine wp_plain [true, true, false, true, true, true, true, true] rfl rfl ?_
          refine s_indexArr (j := 1) hE rfl rfl arr82 rfl (by decide) rfl ?_; clear hE a; intro a hE
          refine s_load1 hE rfl (hM.get 3 rfl) rfl one77 (by intro X h; cases h) rfl ?_; clear hE a; intro a hE
          refine s_call hE rfl Try.call31 (putwrites_c _ lb _ _ (hM.get 7 rfl) ho_lb) rfl ?_
          rintro e w8 ⟨v64_0, rfl, hN⟩
          refine ⟨_, rfl, trivial, ?_⟩; clear hE a; intro a hE
          replace hM : Mem _ _ w8 [_, _, _, _, _, _, _, _, _] := hM.call0 hN ⟨rfl, trivial⟩; clear hN
          refine s_move hE rfl rfl ?_; clear hE a; intro a hE
          refine s_extract hE rfl rfl rfl ?_; clear hE a; intro a hE
          refine s_extract hE rfl rfl rfl ?_; clear hE a; intro a hE
          refine s_assign hE rfl rfl ?_; clear hE a; intro a hE
          refine s_assign hE rfl rfl ?_; clear hE a; intro a hE
          refine q_nil ?_
          replace hE : Env a 112 [(3, _), (4, _), (5, _), (6, _), (11, _), (12, _), (13, _), (14, _), (43, _), (53, _)] := hE.sel [3, 4, 5, 6, 11, 12, 13, 14, 43, 53] rfl
          refine hK9 _ _ ?_
          refine wp_seq_k (fun K10 hK10 => ?_)
          refine wp_seq_k (fun K11 hK11 => ?_)
          refine wp_plain [true, true, true, true, true, true] rfl rfl ?_
          refine s_move hE rfl rfl ?_; clear hE a; intro a hE
          refine s_bin hE rfl rfl bin_neq rfl ?_; clear hE a; intro a hE
          refine s_move hE rfl rfl ?_; clear hE a; intro a hE
          refine hE.split 69 rfl (fun hb69 hE' => ?_) (fun hb69 hE' => ?_)
          · replace hE := hE'; clear hE'
            replace hb69 := of_decide_eq_false (not_true hb69)
            replace hb69 : ¬ ((putF la) = 0) := by omega
            refine g_no (b := true) hE rfl rfl rfl ?_; clear hE a; intro a hE
            refine g_no (b := true) hE rfl rfl rfl ?_; clear hE a; intro a hE
            refine s_pickt hE rfl rfl rfl ?_; clear hE a; intro a hE
            refine q_nil ?_
            replace hE : Env a 112 [(3, _), (4, _), (5, _), (6, _), (11, _), (13, _), (43, _), (53, _), (72, _)] := hE.sel [3, 4, 5, 6, 11, 13, 43, 53, 72] rfl
            refine hK11 _ _ ?_
            refine wp_cond_true (hE.eval rfl) ?_
            refine wp_seq_k (fun K12 hK12 => ?_)
            refine wp_plain [false, true] rfl rfl ?_
            refine s_call hE rfl Try.call30 (awake21_c  _ ) rfl ?_
            rintro e w9 ⟨rfl, hN⟩
            refine ⟨_, rfl, trivial, ?_⟩; clear hE a; intro a hE
            replace hM : Mem _ _ w9 [_, _, _, _, _, _, _, _, _] := hM.call0 hN trivial; clear hN
            refine s_assign hE rfl rfl ?_; clear hE a; intro a hE
            refine q_nil ?_
            replace hE : Env a 112 [(3, _), (4, _), (5, _), (6, _), (11, _), (13, _), (43, _), (53, _), (72, _)] := hE.sel [3, 4, 5, 6, 11, 13, 43, 53, 72] rfl
            refine hK12 _ _ ?_
            refine wp_ret ?_
            refine q_then_r ?_
            refine f_ret1 hE rfl rfl ?_
            exact ⟨(by first | rfl | (simp; done)), hM.pick [] rfl⟩
          · replace hE := hE'; clear hE'
            replace hb69 := of_decide_eq_true (not_false' hb69)
            replace hb69 : (putF la) = 0 := by omega
            refine g_yes hE rfl rfl ?_
            refine s_move hE rfl rfl ?_; clear hE a; intro a hE
            refine g_yes hE rfl rfl ?_
            refine s_bin hE rfl rfl bin_neq rfl ?_; clear hE a; intro a hE
            refine s_pickf hE rfl rfl rfl ?_; clear hE a; intro a hE
            refine q_nil ?_
            replace hE : Env a 112 [(3, _), (4, _), (5, _), (6, _), (11, _), (13, _), (43, _), (53, _), (72, _)] := hE.sel [3, 4, 5, 6, 11, 13, 43, 53, 72] rfl
            refine hK11 _ _ ?_
            refine hE.split 72 rfl (fun hb72 hE' => ?_) (fun hb72 hE' => ?_)
            · replace hE := hE'; clear hE'
              replace hb72 := of_decide_eq_false (not_true hb72)
              replace hb72 : ¬ ((putF lb) = 0) := by omega
              refine wp_cond_true (hE.eval rfl) ?_
              refine wp_seq_k (fun K12 hK12 => ?_)
              refine wp_plain [false, true] rfl rfl ?_
              refine s_call hE rfl Try.call30 (awake21_c  _ ) rfl ?_
              rintro e w9 ⟨rfl, hN⟩
              refine ⟨_, rfl, trivial, ?_⟩; clear hE a; intro a hE
              replace hM : Mem _ _ w9 [_, _, _, _, _, _, _, _, _] := hM.call0 hN trivial; clear hN
              refine s_assign hE rfl rfl ?_; clear hE a; intro a hE
              refine q_nil ?_
              replace hE : Env a 112 [(3, _), (4, _), (5, _), (6, _), (11, _), (13, _), (43, _), (53, _), (72, _)] := hE.sel [3, 4, 5, 6, 11, 13, 43, 53, 72] rfl
              refine hK12 _ _ ?_
              refine wp_ret ?_
              refine q_then_r ?_
              refine f_ret1 hE rfl rfl ?_
              exact ⟨(by first | rfl | (simp; done)), hM.pick [] rfl⟩
            · replace hE := hE'; clear hE'
              replace hb72 := of_decide_eq_true (not_false' hb72)
              replace hb72 : (putF lb) = 0 := by omega
              have hpa := put_apartB ho_la (by omega) ho_lb (by omega)
              refine wp_cond_false (hE.eval rfl) ?_
              refine wp_skip ?_
              refine hK10 _ _ ?_
              refine wp_seq_k (fun K12 hK12 => ?_)
              refine wp_plain [true, true, true, true, true, true, true, true] rfl rfl ?_
              refine s_indexArr (j := 0) hE rfl rfl arr82 rfl (by decide) rfl ?_; clear hE a; intro a hE
              refine s_load1 hE rfl (hM.get 4 rfl) rfl one77 (by intro X h; cases h) rfl ?_; clear hE a; intro a hE
              refine s_len hE rfl Try.underlying77 (rd_slice (hM.get 7 rfl)) rfl ?_; clear hE a; intro a hE
              refine s_indexArr (j := 1) hE rfl rfl arr82 rfl (by decide) rfl ?_; clear hE a; intro a hE
              refine s_load1 hE rfl (hM.get 4 rfl) rfl one77 (by intro X h; cases h) rfl ?_; clear hE a; intro a hE
              refine s_len hE rfl Try.underlying77 (rd_slice (hM.get 8 rfl)) rfl ?_; clear hE a; intro a hE
              refine s_bin hE rfl rfl bin_eql rfl ?_; clear hE a; intro a hE
              refine s_assign hE rfl rfl ?_; clear hE a; intro a hE
              refine q_nil ?_
              replace hE : Env a 112 [(3, _), (4, _), (5, _), (6, _), (11, _), (13, _), (15, _), (43, _), (53, _), (72, _)] := hE.sel [3, 4, 5, 6, 11, 13, 15, 43, 53, 72] rfl
              refine hK12 _ _ ?_
              refine wp_seq_k (fun K13 hK13 => ?_)
              refine wp_seq_k (fun K14 hK14 => ?_)
              refine wp_plain [true] rfl rfl ?_
              refine s_assign hE rfl rfl ?_; clear hE a; intro a hE
              refine q_nil ?_
              refine hK14 _ _ ?_
              refine wp_block ?_
              replace hE := hE.cast 15 rfl (show _ = Value.bool (sameW la lb 0) from (congrArg Value.bool sameW_zero))
              refine c_loop (fun (i : Nat) a w' => i ≤ la.length ∧ Env a 112 [(3, .pointer (some ⟨b3, 0, none⟩)), (4, .pointer (some ⟨b4, 0, none⟩)), (5, .pointer (some ⟨b5, 0, none⟩)), (6, .bool false), (11, v58_0), (13, v64_0), (15, .bool (sameW la lb i)), (16, .int .i64 ((i : Nat) : Int)), (43, .bool false), (53, .bool false), (72, .bool false)] ∧ Mem w [] w' [own v64_0 1 (putW lb).length (bv (putW lb)), own v58_0 1 (putW la).length (bv (putW la)), own v24 1 (putL cB tB hB bB mB yB).length (bv (putL cB tB hB bB mB yB)), own v19 1 (putL cA tA hA bA mA yA).length (bv (putL cA tA hA bA mA yA)), blk b5 [[u], [v]] [1, 1] 82, blk b4 [[.int .u64 ((cB : Nat) : Int)], bv tB, bv hB, bv bB, [.int .i64 mB], [.int .i64 yB]] [1, 32, 32, 32, 1, 1] 67, blk b3 [[.int .u64 ((cA : Nat) : Int)], bv tA, bv hA, bv bA, [.int .i64 mA], [.int .i64 yA]] [1, 32, 32, 32, 1, 1] 67, rd u 66 la.length ca (la.flatMap wcl), rd v 66 lb.length cb (lb.flatMap wcl)]) (fun i => la.length - i) 0 ⟨Nat.zero_le _, hE.sel [3, 4, 5, 6, 11, 13, 15, 16, 43, 53, 72] rfl, hM⟩ ?_
              clear hE hM a; rintro i a w9 ⟨hi, hE, hM⟩
              refine wp_seq_k (fun K15 hK15 => ?_)
              refine wp_seq_k (fun K16 hK16 => ?_)
              refine wp_plain [true, true, true, true, true, true, true, true] rfl rfl ?_
              refine s_move hE rfl rfl ?_; clear hE a; intro a hE
              refine s_indexArr (j := 0) hE rfl rfl arr82 rfl (by decide) rfl ?_; clear hE a; intro a hE
              refine s_load1 hE rfl (hM.get 4 rfl) rfl one77 (by intro X h; cases h) rfl ?_; clear hE a; intro a hE
              refine s_len hE rfl Try.underlying77 (rd_slice (hM.get 7 rfl)) rfl ?_; clear hE a; intro a hE
              refine s_bin hE rfl rfl bin_lss rfl ?_; clear hE a; intro a hE
              refine s_move hE rfl rfl ?_; clear hE a; intro a hE
              refine hE.split 86 rfl (fun hb86 hE' => ?_) (fun hb86 hE' => ?_)
              · replace hE := hE'; clear hE'
                replace hb86 := of_decide_eq_true hb86
                replace hb86 : i < la.length := by omega
                replace hb86 : i < la.length := by omega
                refine g_yes hE rfl rfl ?_
                refine s_move hE rfl rfl ?_; clear hE a; intro a hE
                refine s_pickt hE rfl rfl rfl ?_; clear hE a; intro a hE
                refine q_nil ?_
                replace hE : Env a 112 [(3, _), (4, _), (5, _), (6, _), (11, _), (13, _), (15, _), (16, _), (43, _), (53, _), (72, _), (88, _)] := hE.sel [3, 4, 5, 6, 11, 13, 15, 16, 43, 53, 72, 88] rfl
                refine hK16 _ _ ?_
                refine hE.split 88 rfl (fun hb88 hE' => ?_) (fun hb88 hE' => ?_)
                · replace hE := hE'; clear hE'
                  have hll := sameW_len hb88
                  refine wp_cond_true (hE.eval rfl) ?_
                  refine wp_skip ?_
                  refine hK15 _ _ ?_
                  refine wp_seq_k (fun K17 hK17 => ?_)
                  refine wp_block ?_
                  refine wp_drawnM hM (by kernel_rfl) (fun _ => False) [(0, true), (1, true), (2, true), (3, true), (4, true), (5, true), (6, true), (7, true), (8, true), (9, true), (10, true), (11, true)] [] (by kernel_rfl) rfl ?_
                  intro w10 hM' hww10; clear hM; have hM := hM'; clear hM'
                  refine s_indexArr (j := 0) hE rfl rfl arr82 rfl (by decide) rfl ?_; clear hE a; intro a hE
                  refine s_load1 hE rfl (hM.get 4 rfl) rfl one77 (by intro X h; cases h; simp) rfl ?_; clear hE a; intro a hE
                  refine s_move hE rfl rfl ?_; clear hE a; intro a hE
                  refine s_indexRd (j := i) hE rfl (hM.get 7 rfl) rfl slt77 (by first | rfl | omega) (by omega) rfl ?_; clear hE a; intro a p94 hE hc94 hp94
                  have hlj94 : i < la.length := (by omega)
                  have hok94 := ho_la _ (getD_mem (d := wr0) hlj94)
                  rw [flat_elem (d := wr0) (fun x hx => wcl_len ((ho_la x hx)).1) hlj94] at hc94
                  refine s_loadAtN hE rfl hc94 (by rw [wcl_len hok94.1]; exact row84) (by intro X h; cases h; simp) rfl ?_; clear hE a; intro a hE
                  replace hE := hE.cast 95 rfl (show _ = Value.agg ([[.int .i64 ((la.getD i wr0).1)], [.int .i64 ((la.getD i wr0).2.1)], bv ((la.getD i wr0).2.2)] : List (List Value)).flatten.toArray from rfl)
                  refine s_indexArr (j := 1) hE rfl rfl arr82 rfl (by decide) rfl ?_; clear hE a; intro a hE
                  refine s_load1 hE rfl (hM.get 4 rfl) rfl one77 (by intro X h; cases h; simp) rfl ?_; clear hE a; intro a hE
                  refine s_move hE rfl rfl ?_; clear hE a; intro a hE
                  refine s_indexRd (j := i) hE rfl (hM.get 8 rfl) rfl slt77 (by first | rfl | omega) (by omega) rfl ?_; clear hE a; intro a p99 hE hc99 hp99
                  have hlj99 : i < lb.length := (by omega)
                  have hok99 := ho_lb _ (getD_mem (d := wr0) hlj99)
                  rw [flat_elem (d := wr0) (fun x hx => wcl_len ((ho_lb x hx)).1) hlj99] at hc99
                  refine s_loadAtN hE rfl hc99 (by rw [wcl_len hok99.1]; exact row84) (by intro X h; cases h; simp) rfl ?_; clear hE a; intro a hE
                  replace hE := hE.cast 100 rfl (show _ = Value.agg ([[.int .i64 ((lb.getD i wr0).1)], [.int .i64 ((lb.getD i wr0).2.1)], bv ((lb.getD i wr0).2.2)] : List (List Value)).flatten.toArray from rfl)
                  refine s_bin hE rfl rfl ((eqk84 (b := decide ((((la.getD i wr0).1) : Int) = ((lb.getD i wr0).1) ∧ (((la.getD i wr0).2.1) : Int) = ((lb.getD i wr0).2.1) ∧ ((la.getD i wr0).2.2) = ((lb.getD i wr0).2.2))) (kl84 (k := 0) (x0 := ((la.getD i wr0).1)) (x1 := ((la.getD i wr0).2.1)) (x2 := (la.getD i wr0).2.2) (wf_i64 hok94.2.1) (wf_i64 hok94.2.2) hok94.1) (kl84 (k := 0) (x0 := ((lb.getD i wr0).1)) (x1 := ((lb.getD i wr0).2.1)) (x2 := (lb.getD i wr0).2.2) (wf_i64 hok99.2.1) (wf_i64 hok99.2.2) hok99.1) (by rw [flat_eq (by have hl_x2 : ((la.getD i wr0).2.2).length = 64 := hok94.1; have hl_y2 : ((lb.getD i wr0).2.2).length = 64 := hok99.1; simp only [List.map_cons, List.map_nil, bv_length, List.length_cons, List.length_nil, hl_x2, hl_y2])]; simp [bv_iff, Int.ofNat_inj]; try omega)).1) rfl ?_; clear hE a; intro a hE
                  refine s_assign hE rfl rfl ?_; clear hE a; intro a hE
                  refine q_nil ?_
                  replace hE : Env a 112 [(3, _), (4, _), (5, _), (6, _), (11, _), (13, _), (15, _), (16, _), (43, _), (53, _), (72, _), (88, _)] := hE.sel [3, 4, 5, 6, 11, 13, 15, 16, 43, 53, 72, 88] rfl
                  refine q_block_n ?_
                  refine hK17 _ _ ?_
                  refine wp_plain [true, true, true] rfl rfl ?_
                  refine s_move hE rfl rfl ?_; clear hE a; intro a hE
                  refine s_bin hE rfl rfl (show Bin _ _ _ _ _ (.int .i64 ((i + 1 : Nat) : Int)) from bin_add (by rw [wrap_i64 (by omega) (by omega)]; omega)) rfl ?_; clear hE a; intro a hE
                  refine s_assign hE rfl rfl ?_; clear hE a; intro a hE
                  refine q_nil ?_
                  replace hE : Env a 112 [(3, _), (4, _), (5, _), (6, _), (11, _), (13, _), (15, _), (16, _), (43, _), (53, _), (72, _), (88, _)] := hE.sel [3, 4, 5, 6, 11, 13, 15, 16, 43, 53, 72, 88] rfl
                  replace hE := hE.cast 15 rfl (show _ = Value.bool (sameW la lb (i + 1)) from (congrArg Value.bool (sameW_succ (by assumption) (by omega))))
                  replace hE := hE.cast 16 rfl (show _ = Value.int .i64 (((i + 1) : Nat) : Int) from (congrArg _ (by omega)))
                  replace hM : Mem _ _ w10 [_, _, _, _, _, _, _, _, _] := hM.pick [0, 1, 2, 3, 4, 5, 6, 7, 8] rfl
                  exact ⟨i + 1, ⟨by omega, hE.sel [3, 4, 5, 6, 11, 13, 15, 16, 43, 53, 72] rfl, hM⟩, by omega⟩
                · replace hE := hE'; clear hE'
                  have hne := sameW_not hb88
                  refine wp_cond_false (hE.eval rfl) ?_
                  refine wp_exit ?_
                  refine q_then_e ?_
                  refine q_then_e ?_
                  refine q_block_x ?_
                  refine hK13 _ _ ?_
                  refine wp_seq_k (fun K17 hK17 => ?_)
                  refine wp_plain [true, true, true, true, true, true, true, true, false, true, true] rfl rfl ?_
                  refine s_move hE rfl rfl ?_; clear hE a; intro a hE
                  obtain ⟨cs103, hs103⟩ := own_rd (hM.get 1 rfl)
                  refine s_toStr hE rfl Try.underlying55 Try.underlying5 Try.underlying9 hs103 (by intro X h; cases h) rfl ?_; clear hE a; intro a hE
                  refine s_move hE rfl rfl ?_; clear hE a; intro a hE
                  obtain ⟨cs105, hs105⟩ := own_rd (hM.get 0 rfl)
                  refine s_toStr hE rfl Try.underlying55 Try.underlying5 Try.underlying9 hs105 (by intro X h; cases h) rfl ?_; clear hE a; intro a hE
                  refine s_bin hE rfl rfl bins_str.1 rfl ?_; clear hE a; intro a hE
                  refine s_move hE rfl rfl ?_; clear hE a; intro a hE
                  refine s_bin hE rfl rfl (bins_bool Try.underlying4).1 rfl ?_; clear hE a; intro a hE
                  refine s_move hE rfl rfl ?_; clear hE a; intro a hE
                  replace hE := hE.cast 109 rfl (show _ = Value.bool true from (congrArg Value.bool (by show (decide (putW la = putW lb) == _) = true; rw [hpa, hb88, hne]; rfl)))
                  refine g_yes hE rfl rfl ?_
                  refine s_call hE rfl Try.call30 (awake21_c  _ ) rfl ?_
                  rintro e w10 ⟨rfl, hN⟩
                  refine ⟨_, rfl, trivial, ?_⟩; clear hE a; intro a hE
                  replace hM : Mem _ _ w10 [_, _, _, _, _, _, _, _, _] := hM.call0 hN trivial; clear hN
                  refine s_pickt hE rfl rfl rfl ?_; clear hE a; intro a hE
                  refine s_assign hE rfl rfl ?_; clear hE a; intro a hE
                  refine q_nil ?_
                  replace hE : Env a 112 [(3, _), (4, _), (5, _), (6, _), (15, _), (16, _), (43, _), (53, _), (72, _), (88, _)] := hE.sel [3, 4, 5, 6, 15, 16, 43, 53, 72, 88] rfl
                  refine hK17 _ _ ?_
                  refine wp_ret ?_
                  refine f_ret1 hE rfl rfl ?_
                  exact ⟨(by first | rfl | (simp; done)), hM.pick [] rfl⟩
              · replace hE := hE'; clear hE'
                replace hb86 := of_decide_eq_false hb86
                replace hb86 : ¬ (i < la.length) := by omega
                obtain rfl : la.length = i := by omega
                refine g_no (b := false) hE rfl rfl rfl ?_; clear hE a; intro a hE
                refine s_pickf hE rfl rfl rfl ?_; clear hE a; intro a hE
                refine q_nil ?_
                replace hE : Env a 112 [(3, _), (4, _), (5, _), (6, _), (11, _), (13, _), (15, _), (16, _), (43, _), (53, _), (72, _), (88, _)] := hE.sel [3, 4, 5, 6, 11, 13, 15, 16, 43, 53, 72, 88] rfl
                refine hK16 _ _ ?_
                refine wp_cond_false (hE.eval rfl) ?_
                refine wp_exit ?_
                refine q_then_e ?_
                refine q_then_e ?_
                refine q_block_x ?_
                refine hK13 _ _ ?_
                refine wp_seq_k (fun K17 hK17 => ?_)
                refine wp_plain [true, true, true, true, true, true, true, true, false, true, true] rfl rfl ?_
                refine s_move hE rfl rfl ?_; clear hE a; intro a hE
                obtain ⟨cs103, hs103⟩ := own_rd (hM.get 1 rfl)
                refine s_toStr hE rfl Try.underlying55 Try.underlying5 Try.underlying9 hs103 (by intro X h; cases h) rfl ?_; clear hE a; intro a hE
                refine s_move hE rfl rfl ?_; clear hE a; intro a hE
                obtain ⟨cs105, hs105⟩ := own_rd (hM.get 0 rfl)
                refine s_toStr hE rfl Try.underlying55 Try.underlying5 Try.underlying9 hs105 (by intro X h; cases h) rfl ?_; clear hE a; intro a hE
                refine s_bin hE rfl rfl bins_str.1 rfl ?_; clear hE a; intro a hE
                refine s_move hE rfl rfl ?_; clear hE a; intro a hE
                refine s_bin hE rfl rfl (bins_bool Try.underlying4).1 rfl ?_; clear hE a; intro a hE
                refine s_move hE rfl rfl ?_; clear hE a; intro a hE
                replace hE := hE.cast 109 rfl (show _ = Value.bool true from (congrArg Value.bool (by show (decide (putW la = putW lb) == _) = true; rw [hpa, sameW_end]; simp)))
                refine g_yes hE rfl rfl ?_
                refine s_call hE rfl Try.call30 (awake21_c  _ ) rfl ?_
                rintro e w10 ⟨rfl, hN⟩
                refine ⟨_, rfl, trivial, ?_⟩; clear hE a; intro a hE
                replace hM : Mem _ _ w10 [_, _, _, _, _, _, _, _, _] := hM.call0 hN trivial; clear hN
                refine s_pickt hE rfl rfl rfl ?_; clear hE a; intro a hE
                refine s_assign hE rfl rfl ?_; clear hE a; intro a hE
                refine q_nil ?_
                replace hE : Env a 112 [(3, _), (4, _), (5, _), (6, _), (15, _), (16, _), (43, _), (53, _), (72, _), (88, _)] := hE.sel [3, 4, 5, 6, 15, 16, 43, 53, 72, 88] rfl
                refine hK17 _ _ ?_
                refine wp_ret ?_
                refine f_ret1 hE rfl rfl ?_
                exact ⟨(by first | rfl | (simp; done)), hM.pick [] rfl⟩
    · replace hE := hE'; clear hE'
      replace hb33 := of_decide_eq_false hb33
      replace hb33 : ¬ ((putE cB mB yB) = 0) := by omega
      refine g_no (b := false) hE rfl rfl rfl ?_; clear hE a; intro a hE
      refine g_no (b := false) hE rfl rfl rfl ?_; clear hE a; intro a hE
      refine g_no (b := false) hE rfl rfl rfl ?_; clear hE a; intro a hE
      refine g_no (b := false) hE rfl rfl rfl ?_; clear hE a; intro a hE
      refine g_no (b := false) hE rfl rfl rfl ?_; clear hE a; intro a hE
      refine g_no (b := false) hE rfl rfl rfl ?_; clear hE a; intro a hE
      refine g_no (b := false) hE rfl rfl rfl ?_; clear hE a; intro a hE
      refine g_no (b := false) hE rfl rfl rfl ?_; clear hE a; intro a hE
      refine g_no (b := false) hE rfl rfl rfl ?_; clear hE a; intro a hE
      refine s_pickf hE rfl rfl rfl ?_; clear hE a; intro a hE
      refine q_nil ?_
      replace hE : Env a 112 [(3, _), (4, _), (5, _), (6, _), (43, _)] := hE.sel [3, 4, 5, 6, 43] rfl
      refine hK5 _ _ ?_
      refine wp_cond_false (hE.eval rfl) ?_
      refine wp_skip ?_
      refine hK4 _ _ ?_
      refine wp_seq_k (fun K6 hK6 => ?_)
      refine wp_seq_k (fun K7 hK7 => ?_)
      refine wp_plain [true, true, true, true, true, true, true, true, true, true] rfl rfl ?_
      refine s_indexArr (j := 0) hE rfl rfl arr82 rfl (by decide) rfl ?_; clear hE a; intro a hE
      refine s_load1 hE rfl (hM.get 2 rfl) rfl one77 (by intro X h; cases h) rfl ?_; clear hE a; intro a hE
      refine s_len hE rfl Try.underlying77 (rd_slice (hM.get 5 rfl)) rfl ?_; clear hE a; intro a hE
      refine s_bin hE rfl rfl bin_gtr rfl ?_; clear hE a; intro a hE
      refine s_move hE rfl rfl ?_; clear hE a; intro a hE
      refine hE.split 48 rfl (fun hb48 hE' => ?_) (fun hb48 hE' => ?_)
      · replace hE := hE'; clear hE'
        replace hb48 := of_decide_eq_true hb48
        replace hb48 : 30 < la.length := by omega
        refine g_no (b := true) hE rfl rfl rfl ?_; clear hE a; intro a hE
        refine g_no (b := true) hE rfl rfl rfl ?_; clear hE a; intro a hE
        refine g_no (b := true) hE rfl rfl rfl ?_; clear hE a; intro a hE
        refine g_no (b := true) hE rfl rfl rfl ?_; clear hE a; intro a hE
        refine s_pickt hE rfl rfl rfl ?_; clear hE a; intro a hE
        refine q_nil ?_
        replace hE : Env a 112 [(3, _), (4, _), (5, _), (6, _), (43, _), (53, _)] := hE.sel [3, 4, 5, 6, 43, 53] rfl
        refine hK7 _ _ ?_
        refine wp_cond_true (hE.eval rfl) ?_
        refine wp_seq_k (fun K8 hK8 => ?_)
        refine wp_plain [false, true] rfl rfl ?_
        refine s_call hE rfl Try.call30 (awake21_c  _ ) rfl ?_
        rintro e w7 ⟨rfl, hN⟩
        refine ⟨_, rfl, trivial, ?_⟩; clear hE a; intro a hE
        replace hM : Mem _ _ w7 [_, _, _, _, _, _, _] := hM.call0 hN trivial; clear hN
        refine s_assign hE rfl rfl ?_; clear hE a; intro a hE
        refine q_nil ?_
        replace hE : Env a 112 [(3, _), (4, _), (5, _), (6, _), (43, _), (53, _)] := hE.sel [3, 4, 5, 6, 43, 53] rfl
        refine hK8 _ _ ?_
        refine wp_ret ?_
        refine q_then_r ?_
        refine f_ret1 hE rfl rfl ?_
        exact ⟨(by first | rfl | (simp; done)), hM.pick [] rfl⟩
      · replace hE := hE'; clear hE'
        replace hb48 := of_decide_eq_false hb48
        replace hb48 : ¬ (30 < la.length) := by omega
        refine g_yes hE rfl rfl ?_
        refine s_indexArr (j := 1) hE rfl rfl arr82 rfl (by decide) rfl ?_; clear hE a; intro a hE
        refine g_yes hE rfl rfl ?_
        refine s_load1 hE rfl (hM.get 2 rfl) rfl one77 (by intro X h; cases h) rfl ?_; clear hE a; intro a hE
        refine g_yes hE rfl rfl ?_
        refine s_len hE rfl Try.underlying77 (rd_slice (hM.get 6 rfl)) rfl ?_; clear hE a; intro a hE
        refine g_yes hE rfl rfl ?_
        refine s_bin hE rfl rfl bin_gtr rfl ?_; clear hE a; intro a hE
        refine s_pickf hE rfl rfl rfl ?_; clear hE a; intro a hE
        refine q_nil ?_
        replace hE : Env a 112 [(3, _), (4, _), (5, _), (6, _), (43, _), (53, _)] := hE.sel [3, 4, 5, 6, 43, 53] rfl
        refine hK7 _ _ ?_
        refine hE.split 53 rfl (fun hb53 hE' => ?_) (fun hb53 hE' => ?_)
        · replace hE := hE'; clear hE'
          replace hb53 := of_decide_eq_true hb53
          replace hb53 : 30 < lb.length := by omega
          refine wp_cond_true (hE.eval rfl) ?_
          refine wp_seq_k (fun K8 hK8 => ?_)
          refine wp_plain [false, true] rfl rfl ?_
          refine s_call hE rfl Try.call30 (awake21_c  _ ) rfl ?_
          rintro e w7 ⟨rfl, hN⟩
          refine ⟨_, rfl, trivial, ?_⟩; clear hE a; intro a hE
          replace hM : Mem _ _ w7 [_, _, _, _, _, _, _] := hM.call0 hN trivial; clear hN
          refine s_assign hE rfl rfl ?_; clear hE a; intro a hE
          refine q_nil ?_
          replace hE : Env a 112 [(3, _), (4, _), (5, _), (6, _), (43, _), (53, _)] := hE.sel [3, 4, 5, 6, 43, 53] rfl
          refine hK8 _ _ ?_
          refine wp_ret ?_
          refine q_then_r ?_
          refine f_ret1 hE rfl rfl ?_
          exact ⟨(by first | rfl | (simp; done)), hM.pick [] rfl⟩
        · replace hE := hE'; clear hE'
          replace hb53 := of_decide_eq_false hb53
          replace hb53 : ¬ (30 < lb.length) := by omega
          refine wp_cond_false (hE.eval rfl) ?_
          refine wp_skip ?_
          refine hK6 _ _ ?_
          refine wp_seq_k (fun K8 hK8 => ?_)
          refine wp_plain [true, true, false, true, true, true, true, true] rfl rfl ?_
          refine s_indexArr (j := 0) hE rfl rfl arr82 rfl (by decide) rfl ?_; clear hE a; intro a hE
          refine s_load1 hE rfl (hM.get 2 rfl) rfl one77 (by intro X h; cases h) rfl ?_; clear hE a; intro a hE
          refine s_call hE rfl Try.call31 (putwrites_c _ la _ _ (hM.get 5 rfl) ho_la) rfl ?_
          rintro e w7 ⟨v58_0, rfl, hN⟩
          refine ⟨_, rfl, trivial, ?_⟩; clear hE a; intro a hE
          replace hM : Mem _ _ w7 [_, _, _, _, _, _, _, _] := hM.call0 hN ⟨rfl, trivial⟩; clear hN
          refine s_move hE rfl rfl ?_; clear hE a; intro a hE
          refine s_extract hE rfl rfl rfl ?_; clear hE a; intro a hE
          refine s_extract hE rfl rfl rfl ?_; clear hE a; intro a hE
          refine s_assign hE rfl rfl ?_; clear hE a; intro a hE
          refine s_assign hE rfl rfl ?_; clear hE a; intro a hE
          refine q_nil ?_
          replace hE : Env a 112 [(3, _), (4, _), (5, _), (6, _), (11, _), (12, _), (43, _), (53, _)] := hE.sel [3, 4, 5, 6, 11, 12, 43, 53] rfl
          refine hK8 _ _ ?_
          refine wp_seq_k (fun K9 hK9 => ?_)
          refine wp_plain [true, true, false, true, true, true, true, true] rfl rfl ?_
          refine s_indexArr (j := 1) hE rfl rfl arr82 rfl (by decide) rfl ?_; clear hE a; intro a hE
          refine s_load1 hE rfl (hM.get 3 rfl) rfl one77 (by intro X h; cases h) rfl ?_; clear hE a; intro a hE
          refine s_call hE rfl Try.call31 (putwrites_c _ lb _ _ (hM.get 7 rfl) ho_lb) rfl ?_
          rintro e w8 ⟨v64_0, rfl, hN⟩
          refine ⟨_, rfl, trivial, ?_⟩; clear hE a; intro a hE
          replace hM : Mem _ _ w8 [_, _, _, _, _, _, _, _, _] := hM.call0 hN ⟨rfl, trivial⟩; clear hN
          refine s_move hE rfl rfl ?_; clear hE a; intro a hE
          refine s_extract hE rfl rfl rfl ?_; clear hE a; intro a hE
          refine s_extract hE rfl rfl rfl ?_; clear hE a; intro a hE
          refine s_assign hE rfl rfl ?_; clear hE a; intro a hE
          refine s_assign hE rfl rfl ?_; clear hE a; intro a hE
          refine q_nil ?_
          replace hE : Env a 112 [(3, _), (4, _), (5, _), (6, _), (11, _), (12, _), (13, _), (14, _), (43, _), (53, _)] := hE.sel [3, 4, 5, 6, 11, 12, 13, 14, 43, 53] rfl
          refine hK9 _ _ ?_
          refine wp_seq_k (fun K10 hK10 => ?_)
          refine wp_seq_k (fun K11 hK11 => ?_)
          refine wp_plain [true, true, true, true, true, true] rfl rfl ?_
          refine s_move hE rfl rfl ?_; clear hE a; intro a hE
          refine s_bin hE rfl rfl bin_neq rfl ?_; clear hE a; intro a hE
          refine s_move hE rfl rfl ?_; clear hE a; intro a hE
          refine hE.split 69 rfl (fun hb69 hE' => ?_) (fun hb69 hE' => ?_)
          · replace hE := hE'; clear hE'
            replace hb69 := of_decide_eq_false (not_true hb69)
            replace hb69 : ¬ ((putF la) = 0) := by omega
            refine g_no (b := true) hE rfl rfl rfl ?_; clear hE a; intro a hE
            refine g_no (b := true) hE rfl rfl rfl ?_; clear hE a; intro a hE
            refine s_pickt hE rfl rfl rfl ?_; clear hE a; intro a hE
            refine q_nil ?_
            replace hE : Env a 112 [(3, _), (4, _), (5, _), (6, _), (11, _), (13, _), (43, _), (53, _), (72, _)] := hE.sel [3, 4, 5, 6, 11, 13, 43, 53, 72] rfl
            refine hK11 _ _ ?_
            refine wp_cond_true (hE.eval rfl) ?_
            refine wp_seq_k (fun K12 hK12 => ?_)
            refine wp_plain [false, true] rfl rfl ?_
            refine s_call hE rfl Try.call30 (awake21_c  _ ) rfl ?_
            rintro e w9 ⟨rfl, hN⟩
            refine ⟨_, rfl, trivial, ?_⟩; clear hE a; intro a hE
            replace hM : Mem _ _ w9 [_, _, _, _, _, _, _, _, _] := hM.call0 hN trivial; clear hN
            refine s_assign hE rfl rfl ?_; clear hE a; intro a hE
            refine q_nil ?_
            replace hE : Env a 112 [(3, _), (4, _), (5, _), (6, _), (11, _), (13, _), (43, _), (53, _), (72, _)] := hE.sel [3, 4, 5, 6, 11, 13, 43, 53, 72] rfl
            refine hK12 _ _ ?_
            refine wp_ret ?_
            refine q_then_r ?_
            refine f_ret1 hE rfl rfl ?_
            exact ⟨(by first | rfl | (simp; done)), hM.pick [] rfl⟩
          · replace hE := hE'; clear hE'
            replace hb69 := of_decide_eq_true (not_false' hb69)
            replace hb69 : (putF la) = 0 := by omega
            refine g_yes hE rfl rfl ?_
            refine s_move hE rfl rfl ?_; clear hE a; intro a hE
            refine g_yes hE rfl rfl ?_
            refine s_bin hE rfl rfl bin_neq rfl ?_; clear hE a; intro a hE
            refine s_pickf hE rfl rfl rfl ?_; clear hE a; intro a hE
            refine q_nil ?_
            replace hE : Env a 112 [(3, _), (4, _), (5, _), (6, _), (11, _), (13, _), (43, _), (53, _), (72, _)] := hE.sel [3, 4, 5, 6, 11, 13, 43, 53, 72] rfl
            refine hK11 _ _ ?_
            refine hE.split 72 rfl (fun hb72 hE' => ?_) (fun hb72 hE' => ?_)
            · replace hE := hE'; clear hE'
              replace hb72 := of_decide_eq_false (not_true hb72)
              replace hb72 : ¬ ((putF lb) = 0) := by omega
              refine wp_cond_true (hE.eval rfl) ?_
              refine wp_seq_k (fun K12 hK12 => ?_)
              refine wp_plain [false, true] rfl rfl ?_
              refine s_call hE rfl Try.call30 (awake21_c  _ ) rfl ?_
              rintro e w9 ⟨rfl, hN⟩
              refine ⟨_, rfl, trivial, ?_⟩; clear hE a; intro a hE
              replace hM : Mem _ _ w9 [_, _, _, _, _, _, _, _, _] := hM.call0 hN trivial; clear hN
              refine s_assign hE rfl rfl ?_; clear hE a; intro a hE
              refine q_nil ?_
              replace hE : Env a 112 [(3, _), (4, _), (5, _), (6, _), (11, _), (13, _), (43, _), (53, _), (72, _)] := hE.sel [3, 4, 5, 6, 11, 13, 43, 53, 72] rfl
              refine hK12 _ _ ?_
              refine wp_ret ?_
              refine q_then_r ?_
              refine f_ret1 hE rfl rfl ?_
              exact ⟨(by first | rfl | (simp; done)), hM.pick [] rfl⟩
            · replace hE := hE'; clear hE'
              replace hb72 := of_decide_eq_true (not_false' hb72)
              replace hb72 : (putF lb) = 0 := by omega
              have hpa := put_apartB ho_la (by omega) ho_lb (by omega)
              refine wp_cond_false (hE.eval rfl) ?_
              refine wp_skip ?_
              refine hK10 _ _ ?_
              refine wp_seq_k (fun K12 hK12 => ?_)
              refine wp_plain [true, true, true, true, true, true, true, true] rfl rfl ?_
              refine s_indexArr (j := 0) hE rfl rfl arr82 rfl (by decide) rfl ?_; clear hE a; intro a hE
              refine s_load1 hE rfl (hM.get 4 rfl) rfl one77 (by intro X h; cases h) rfl ?_; clear hE a; intro a hE
              refine s_len hE rfl Try.underlying77 (rd_slice (hM.get 7 rfl)) rfl ?_; clear hE a; intro a hE
              refine s_indexArr (j := 1) hE rfl rfl arr82 rfl (by decide) rfl ?_; clear hE a; intro a hE
              refine s_load1 hE rfl (hM.get 4 rfl) rfl one77 (by intro X h; cases h) rfl ?_; clear hE a; intro a hE
              refine s_len hE rfl Try.underlying77 (rd_slice (hM.get 8 rfl)) rfl ?_; clear hE a; intro a hE
              refine s_bin hE rfl rfl bin_eql rfl ?_; clear hE a; intro a hE
              refine s_assign hE rfl rfl ?_; clear hE a; intro a hE
              refine q_nil ?_
              replace hE : Env a 112 [(3, _), (4, _), (5, _), (6, _), (11, _), (13, _), (15, _), (43, _), (53, _), (72, _)] := hE.sel [3, 4, 5, 6, 11, 13, 15, 43, 53, 72] rfl
              refine hK12 _ _ ?_
              refine wp_seq_k (fun K13 hK13 => ?_)
              refine wp_seq_k (fun K14 hK14 => ?_)
              refine wp_plain [true] rfl rfl ?_
              refine s_assign hE rfl rfl ?_; clear hE a; intro a hE
              refine q_nil ?_
              refine hK14 _ _ ?_
              refine wp_block ?_
              replace hE := hE.cast 15 rfl (show _ = Value.bool (sameW la lb 0) from (congrArg Value.bool sameW_zero))
              refine c_loop (fun (i : Nat) a w' => i ≤ la.length ∧ Env a 112 [(3, .pointer (some ⟨b3, 0, none⟩)), (4, .pointer (some ⟨b4, 0, none⟩)), (5, .pointer (some ⟨b5, 0, none⟩)), (6, .bool false), (11, v58_0), (13, v64_0), (15, .bool (sameW la lb i)), (16, .int .i64 ((i : Nat) : Int)), (43, .bool false), (53, .bool false), (72, .bool false)] ∧ Mem w [] w' [own v64_0 1 (putW lb).length (bv (putW lb)), own v58_0 1 (putW la).length (bv (putW la)), own v24 1 (putL cB tB hB bB mB yB).length (bv (putL cB tB hB bB mB yB)), own v19 1 (putL cA tA hA bA mA yA).length (bv (putL cA tA hA bA mA yA)), blk b5 [[u], [v]] [1, 1] 82, blk b4 [[.int .u64 ((cB : Nat) : Int)], bv tB, bv hB, bv bB, [.int .i64 mB], [.int .i64 yB]] [1, 32, 32, 32, 1, 1] 67, blk b3 [[.int .u64 ((cA : Nat) : Int)], bv tA, bv hA, bv bA, [.int .i64 mA], [.int .i64 yA]] [1, 32, 32, 32, 1, 1] 67, rd u 66 la.length ca (la.flatMap wcl), rd v 66 lb.length cb (lb.flatMap wcl)]) (fun i => la.length - i) 0 ⟨Nat.zero_le _, hE.sel [3, 4, 5, 6, 11, 13, 15, 16, 43, 53, 72] rfl, hM⟩ ?_
              clear hE hM a; rintro i a w9 ⟨hi, hE, hM⟩
              refine wp_seq_k (fun K15 hK15 => ?_)
              refine wp_seq_k (fun K16 hK16 => ?_)
              refine wp_plain [true, true, true, true, true, true, true, true] rfl rfl ?_
              refine s_move hE rfl rfl ?_; clear hE a; intro a hE
              refine s_indexArr (j := 0) hE rfl rfl arr82 rfl (by decide) rfl ?_; clear hE a; intro a hE
              refine s_load1 hE rfl (hM.get 4 rfl) rfl one77 (by intro X h; cases h) rfl ?_; clear hE a; intro a hE
              refine s_len hE rfl Try.underlying77 (rd_slice (hM.get 7 rfl)) rfl ?_; clear hE a; intro a hE
              refine s_bin hE rfl rfl bin_lss rfl ?_; clear hE a; intro a hE
              refine s_move hE rfl rfl ?_; clear hE a; intro a hE
              refine hE.split 86 rfl (fun hb86 hE' => ?_) (fun hb86 hE' => ?_)
              · replace hE := hE'; clear hE'
                replace hb86 := of_decide_eq_true hb86
                replace hb86 : i < la.length := by omega
                replace hb86 : i < la.length := by omega
                refine g_yes hE rfl rfl ?_
                refine s_move hE rfl rfl ?_; clear hE a; intro a hE
                refine s_pickt hE rfl rfl rfl ?_; clear hE a; intro a hE
                refine q_nil ?_
                replace hE : Env a 112 [(3, _), (4, _), (5, _), (6, _), (11, _), (13, _), (15, _), (16, _), (43, _), (53, _), (72, _), (88, _)] := hE.sel [3, 4, 5, 6, 11, 13, 15, 16, 43, 53, 72, 88] rfl
                refine hK16 _ _ ?_
                refine hE.split 88 rfl (fun hb88 hE' => ?_) (fun hb88 hE' => ?_)
                · replace hE := hE'; clear hE'
                  have hll := sameW_len hb88
                  refine wp_cond_true (hE.eval rfl) ?_
                  refine wp_skip ?_
                  refine hK15 _ _ ?_
                  refine wp_seq_k (fun K17 hK17 => ?_)
                  refine wp_block ?_
                  refine wp_drawnM hM (by kernel_rfl) (fun _ => False) [(0, true), (1, true), (2, true), (3, true), (4, true), (5, true), (6, true), (7, true), (8, true), (9, true), (10, true), (11, true)] [] (by kernel_rfl) rfl ?_
                  intro w10 hM' hww10; clear hM; have hM := hM'; clear hM'
                  refine s_indexArr (j := 0) hE rfl rfl arr82 rfl (by decide) rfl ?_; clear hE a; intro a hE
                  refine s_load1 hE rfl (hM.get 4 rfl) rfl one77 (by intro X h; cases h; simp) rfl ?_; clear hE a; intro a hE
                  refine s_move hE rfl rfl ?_; clear hE a; intro a hE
                  refine s_indexRd (j := i) hE rfl (hM.get 7 rfl) rfl slt77 (by first | rfl | omega) (by omega) rfl ?_; clear hE a; intro a p94 hE hc94 hp94
                  have hlj94 : i < la.length := (by omega)
                  have hok94 := ho_la _ (getD_mem (d := wr0) hlj94)
                  rw [flat_elem (d := wr0) (fun x hx => wcl_len ((ho_la x hx)).1) hlj94] at hc94
                  refine s_loadAtN hE rfl hc94 (by rw [wcl_len hok94.1]; exact row84) (by intro X h; cases h; simp) rfl ?_; clear hE a; intro a hE
                  replace hE := hE.cast 95 rfl (show _ = Value.agg ([[.int .i64 ((la.getD i wr0).1)], [.int .i64 ((la.getD i wr0).2.1)], bv ((la.getD i wr0).2.2)] : List (List Value)).flatten.toArray from rfl)
                  refine s_indexArr (j := 1) hE rfl rfl arr82 rfl (by decide) rfl ?_; clear hE a; intro a hE
                  refine s_load1 hE rfl (hM.get 4 rfl) rfl one77 (by intro X h; cases h; simp) rfl ?_; clear hE a; intro a hE
                  refine s_move hE rfl rfl ?_; clear hE a; intro a hE
                  refine s_indexRd (j := i) hE rfl (hM.get 8 rfl) rfl slt77 (by first | rfl | omega) (by omega) rfl ?_; clear hE a; intro a p99 hE hc99 hp99
                  have hlj99 : i < lb.length := (by omega)
                  have hok99 := ho_lb _ (getD_mem (d := wr0) hlj99)
                  rw [flat_elem (d := wr0) (fun x hx => wcl_len ((ho_lb x hx)).1) hlj99] at hc99
                  refine s_loadAtN hE rfl hc99 (by rw [wcl_len hok99.1]; exact row84) (by intro X h; cases h; simp) rfl ?_; clear hE a; intro a hE
                  replace hE := hE.cast 100 rfl (show _ = Value.agg ([[.int .i64 ((lb.getD i wr0).1)], [.int .i64 ((lb.getD i wr0).2.1)], bv ((lb.getD i wr0).2.2)] : List (List Value)).flatten.toArray from rfl)
                  refine s_bin hE rfl rfl ((eqk84 (b := decide ((((la.getD i wr0).1) : Int) = ((lb.getD i wr0).1) ∧ (((la.getD i wr0).2.1) : Int) = ((lb.getD i wr0).2.1) ∧ ((la.getD i wr0).2.2) = ((lb.getD i wr0).2.2))) (kl84 (k := 0) (x0 := ((la.getD i wr0).1)) (x1 := ((la.getD i wr0).2.1)) (x2 := (la.getD i wr0).2.2) (wf_i64 hok94.2.1) (wf_i64 hok94.2.2) hok94.1) (kl84 (k := 0) (x0 := ((lb.getD i wr0).1)) (x1 := ((lb.getD i wr0).2.1)) (x2 := (lb.getD i wr0).2.2) (wf_i64 hok99.2.1) (wf_i64 hok99.2.2) hok99.1) (by rw [flat_eq (by have hl_x2 : ((la.getD i wr0).2.2).length = 64 := hok94.1; have hl_y2 : ((lb.getD i wr0).2.2).length = 64 := hok99.1; simp only [List.map_cons, List.map_nil, bv_length, List.length_cons, List.length_nil, hl_x2, hl_y2])]; simp [bv_iff, Int.ofNat_inj]; try omega)).1) rfl ?_; clear hE a; intro a hE
                  refine s_assign hE rfl rfl ?_; clear hE a; intro a hE
                  refine q_nil ?_
                  replace hE : Env a 112 [(3, _), (4, _), (5, _), (6, _), (11, _), (13, _), (15, _), (16, _), (43, _), (53, _), (72, _), (88, _)] := hE.sel [3, 4, 5, 6, 11, 13, 15, 16, 43, 53, 72, 88] rfl
                  refine q_block_n ?_
                  refine hK17 _ _ ?_
                  refine wp_plain [true, true, true] rfl rfl ?_
                  refine s_move hE rfl rfl ?_; clear hE a; intro a hE
                  refine s_bin hE rfl rfl (show Bin _ _ _ _ _ (.int .i64 ((i + 1 : Nat) : Int)) from bin_add (by rw [wrap_i64 (by omega) (by omega)]; omega)) rfl ?_; clear hE a; intro a hE
                  refine s_assign hE rfl rfl ?_; clear hE a; intro a hE
                  refine q_nil ?_
                  replace hE : Env a 112 [(3, _), (4, _), (5, _), (6, _), (11, _), (13, _), (15, _), (16, _), (43, _), (53, _), (72, _), (88, _)] := hE.sel [3, 4, 5, 6, 11, 13, 15, 16, 43, 53, 72, 88] rfl
                  replace hE := hE.cast 15 rfl (show _ = Value.bool (sameW la lb (i + 1)) from (congrArg Value.bool (sameW_succ (by assumption) (by omega))))
                  replace hE := hE.cast 16 rfl (show _ = Value.int .i64 (((i + 1) : Nat) : Int) from (congrArg _ (by omega)))
                  replace hM : Mem _ _ w10 [_, _, _, _, _, _, _, _, _] := hM.pick [0, 1, 2, 3, 4, 5, 6, 7, 8] rfl
                  exact ⟨i + 1, ⟨by omega, hE.sel [3, 4, 5, 6, 11, 13, 15, 16, 43, 53, 72] rfl, hM⟩, by omega⟩
                · replace hE := hE'; clear hE'
                  have hne := sameW_not hb88
                  refine wp_cond_false (hE.eval rfl) ?_
                  refine wp_exit ?_
                  refine q_then_e ?_
                  refine q_then_e ?_
                  refine q_block_x ?_
                  refine hK13 _ _ ?_
                  refine wp_seq_k (fun K17 hK17 => ?_)
                  refine wp_plain [true, true, true, true, true, true, true, true, false, true, true] rfl rfl ?_
                  refine s_move hE rfl rfl ?_; clear hE a; intro a hE
                  obtain ⟨cs103, hs103⟩ := own_rd (hM.get 1 rfl)
                  refine s_toStr hE rfl Try.underlying55 Try.underlying5 Try.underlying9 hs103 (by intro X h; cases h) rfl ?_; clear hE a; intro a hE
                  refine s_move hE rfl rfl ?_; clear hE a; intro a hE
                  obtain ⟨cs105, hs105⟩ := own_rd (hM.get 0 rfl)
                  refine s_toStr hE rfl Try.underlying55 Try.underlying5 Try.underlying9 hs105 (by intro X h; cases h) rfl ?_; clear hE a; intro a hE
                  refine s_bin hE rfl rfl bins_str.1 rfl ?_; clear hE a; intro a hE
                  refine s_move hE rfl rfl ?_; clear hE a; intro a hE
                  refine s_bin hE rfl rfl (bins_bool Try.underlying4).1 rfl ?_; clear hE a; intro a hE
                  refine s_move hE rfl rfl ?_; clear hE a; intro a hE
                  replace hE := hE.cast 109 rfl (show _ = Value.bool true from (congrArg Value.bool (by show (decide (putW la = putW lb) == _) = true; rw [hpa, hb88, hne]; rfl)))
                  refine g_yes hE rfl rfl ?_
                  refine s_call hE rfl Try.call30 (awake21_c  _ ) rfl ?_
                  rintro e w10 ⟨rfl, hN⟩
                  refine ⟨_, rfl, trivial, ?_⟩; clear hE a; intro a hE
                  replace hM : Mem _ _ w10 [_, _, _, _, _, _, _, _, _] := hM.call0 hN trivial; clear hN
                  refine s_pickt hE rfl rfl rfl ?_; clear hE a; intro a hE
                  refine s_assign hE rfl rfl ?_; clear hE a; intro a hE
                  refine q_nil ?_
                  replace hE : Env a 112 [(3, _), (4, _), (5, _), (6, _), (15, _), (16, _), (43, _), (53, _), (72, _), (88, _)] := hE.sel [3, 4, 5, 6, 15, 16, 43, 53, 72, 88] rfl
                  refine hK17 _ _ ?_
                  refine wp_ret ?_
                  refine f_ret1 hE rfl rfl ?_
                  exact ⟨(by first | rfl | (simp; done)), hM.pick [] rfl⟩
              · replace hE := hE'; clear hE'
                replace hb86 := of_decide_eq_false hb86
                replace hb86 : ¬ (i < la.length) := by omega
                obtain rfl : la.length = i := by omega
                refine g_no (b := false) hE rfl rfl rfl ?_; clear hE a; intro a hE
                refine s_pickf hE rfl rfl rfl ?_; clear hE a; intro a hE
                refine q_nil ?_
                replace hE : Env a 112 [(3, _), (4, _), (5, _), (6, _), (11, _), (13, _), (15, _), (16, _), (43, _), (53, _), (72, _), (88, _)] := hE.sel [3, 4, 5, 6, 11, 13, 15, 16, 43, 53, 72, 88] rfl
                refine hK16 _ _ ?_
                refine wp_cond_false (hE.eval rfl) ?_
                refine wp_exit ?_
                refine q_then_e ?_
                refine q_then_e ?_
                refine q_block_x ?_
                refine hK13 _ _ ?_
                refine wp_seq_k (fun K17 hK17 => ?_)
                refine wp_plain [true, true, true, true, true, true, true, true, false, true, true] rfl rfl ?_
                refine s_move hE rfl rfl ?_; clear hE a; intro a hE
                obtain ⟨cs103, hs103⟩ := own_rd (hM.get 1 rfl)
                refine s_toStr hE rfl Try.underlying55 Try.underlying5 Try.underlying9 hs103 (by intro X h; cases h) rfl ?_; clear hE a; intro a hE
                refine s_move hE rfl rfl ?_; clear hE a; intro a hE
                obtain ⟨cs105, hs105⟩ := own_rd (hM.get 0 rfl)
                refine s_toStr hE rfl Try.underlying55 Try.underlying5 Try.underlying9 hs105 (by intro X h; cases h) rfl ?_; clear hE a; intro a hE
                refine s_bin hE rfl rfl bins_str.1 rfl ?_; clear hE a; intro a hE
                refine s_move hE rfl rfl ?_; clear hE a; intro a hE
                refine s_bin hE rfl rfl (bins_bool Try.underlying4).1 rfl ?_; clear hE a; intro a hE
                refine s_move hE rfl rfl ?_; clear hE a; intro a hE
                replace hE := hE.cast 109 rfl (show _ = Value.bool true from (congrArg Value.bool (by show (decide (putW la = putW lb) == _) = true; rw [hpa, sameW_end]; simp)))
                refine g_yes hE rfl rfl ?_
                refine s_call hE rfl Try.call30 (awake21_c  _ ) rfl ?_
                rintro e w10 ⟨rfl, hN⟩
                refine ⟨_, rfl, trivial, ?_⟩; clear hE a; intro a hE
                replace hM : Mem _ _ w10 [_, _, _, _, _, _, _, _, _] := hM.call0 hN trivial; clear hN
                refine s_pickt hE rfl rfl rfl ?_; clear hE a; intro a hE
                refine s_assign hE rfl rfl ?_; clear hE a; intro a hE
                refine q_nil ?_
                replace hE : Env a 112 [(3, _), (4, _), (5, _), (6, _), (15, _), (16, _), (43, _), (53, _), (72, _), (88, _)] := hE.sel [3, 4, 5, 6, 15, 16, 43, 53, 72, 88] rfl
                refine hK17 _ _ ?_
                refine wp_ret ?_
                refine f_ret1 hE rfl rfl ?_
                exact ⟨(by first | rfl | (simp; done)), hM.pick [] rfl⟩
  · replace hE := hE'; clear hE'
    replace hb29 := of_decide_eq_false hb29
    replace hb29 : ¬ ((putE cA mA yA) = 0) := by omega
    refine g_no (b := false) hE rfl rfl rfl ?_; clear hE a; intro a hE
    refine g_no (b := false) hE rfl rfl rfl ?_; clear hE a; intro a hE
    refine s_pickf hE rfl rfl rfl ?_; clear hE a; intro a hE
    refine s_move hE rfl rfl ?_; clear hE a; intro a hE
    refine g_no (b := false) hE rfl rfl rfl ?_; clear hE a; intro a hE
    refine g_no (b := false) hE rfl rfl rfl ?_; clear hE a; intro a hE
    refine g_no (b := false) hE rfl rfl rfl ?_; clear hE a; intro a hE
    refine g_no (b := false) hE rfl rfl rfl ?_; clear hE a; intro a hE
    refine g_no (b := false) hE rfl rfl rfl ?_; clear hE a; intro a hE
    refine g_no (b := false) hE rfl rfl rfl ?_; clear hE a; intro a hE
    refine g_no (b := false) hE rfl rfl rfl ?_; clear hE a; intro a hE
    refine g_no (b := false) hE rfl rfl rfl ?_; clear hE a; intro a hE
    refine g_no (b := false) hE rfl rfl rfl ?_; clear hE a; intro a hE
    refine s_pickf hE rfl rfl rfl ?_; clear hE a; intro a hE
    refine q_nil ?_
    replace hE : Env a 112 [(3, _), (4, _), (5, _), (6, _), (43, _)] := hE.sel [3, 4, 5, 6, 43] rfl
    refine hK5 _ _ ?_
    refine wp_cond_false (hE.eval rfl) ?_
    refine wp_skip ?_
    refine hK4 _ _ ?_
    refine wp_seq_k (fun K6 hK6 => ?_)
    refine wp_seq_k (fun K7 hK7 => ?_)
    refine wp_plain [true, true, true, true, true, true, true, true, true, true] rfl rfl ?_
    refine s_indexArr (j := 0) hE rfl rfl arr82 rfl (by decide) rfl ?_; clear hE a; intro a hE
    refine s_load1 hE rfl (hM.get 2 rfl) rfl one77 (by intro X h; cases h) rfl ?_; clear hE a; intro a hE
    refine s_len hE rfl Try.underlying77 (rd_slice (hM.get 5 rfl)) rfl ?_; clear hE a; intro a hE
    refine s_bin hE rfl rfl bin_gtr rfl ?_; clear hE a; intro a hE
    refine s_move hE rfl rfl ?_; clear hE a; intro a hE
    refine hE.split 48 rfl (fun hb48 hE' => ?_) (fun hb48 hE' => ?_)
    · replace hE := hE'; clear hE'
      replace hb48 := of_decide_eq_true hb48
      replace hb48 : 30 < la.length := by omega
      refine g_no (b := true) hE rfl rfl rfl ?_; clear hE a; intro a hE
      refine g_no (b := true) hE rfl rfl rfl ?_; clear hE a; intro a hE
      refine g_no (b := true) hE rfl rfl rfl ?_; clear hE a; intro a hE
      refine g_no (b := true) hE rfl rfl rfl ?_; clear hE a; intro a hE
      refine s_pickt hE rfl rfl rfl ?_; clear hE a; intro a hE
      refine q_nil ?_
      replace hE : Env a 112 [(3, _), (4, _), (5, _), (6, _), (43, _), (53, _)] := hE.sel [3, 4, 5, 6, 43, 53] rfl
      refine hK7 _ _ ?_
      refine wp_cond_true (hE.eval rfl) ?_
      refine wp_seq_k (fun K8 hK8 => ?_)
      refine wp_plain [false, true] rfl rfl ?_
      refine s_call hE rfl Try.call30 (awake21_c  _ ) rfl ?_
      rintro e w7 ⟨rfl, hN⟩
      refine ⟨_, rfl, trivial, ?_⟩; clear hE a; intro a hE
      replace hM : Mem _ _ w7 [_, _, _, _, _, _, _] := hM.call0 hN trivial; clear hN
      refine s_assign hE rfl rfl ?_; clear hE a; intro a hE
      refine q_nil ?_
      replace hE : Env a 112 [(3, _), (4, _), (5, _), (6, _), (43, _), (53, _)] := hE.sel [3, 4, 5, 6, 43, 53] rfl
      refine hK8 _ _ ?_
      refine wp_ret ?_
      refine q_then_r ?_
      refine f_ret1 hE rfl rfl ?_
      exact ⟨(by first | rfl | (simp; done)), hM.pick [] rfl⟩
    · replace hE := hE'; clear hE'
      replace hb48 := of_decide_eq_false hb48
      replace hb48 : ¬ (30 < la.length) := by omega
      refine g_yes hE rfl rfl ?_
      refine s_indexArr (j := 1) hE rfl rfl arr82 rfl (by decide) rfl ?_; clear hE a; intro a hE
      refine g_yes hE rfl rfl ?_
      refine s_load1 hE rfl (hM.get 2 rfl) rfl one77 (by intro X h; cases h) rfl ?_; clear hE a; intro a hE
      refine g_yes hE rfl rfl ?_
      refine s_len hE rfl Try.underlying77 (rd_slice (hM.get 6 rfl)) rfl ?_; clear hE a; intro a hE
      refine g_yes hE rfl rfl ?_
      refine s_bin hE rfl rfl bin_gtr rfl ?_; clear hE a; intro a hE
      refine s_pickf hE rfl rfl rfl ?_; clear hE a; intro a hE
      refine q_nil ?_
      replace hE : Env a 112 [(3, _), (4, _), (5, _), (6, _), (43, _), (53, _)] := hE.sel [3, 4, 5, 6, 43, 53] rfl
      refine hK7 _ _ ?_
      refine hE.split 53 rfl (fun hb53 hE' => ?_) (fun hb53 hE' => ?_)
      · replace hE := hE'; clear hE'
        replace hb53 := of_decide_eq_true hb53
        replace hb53 : 30 < lb.length := by omega
        refine wp_cond_true (hE.eval rfl) ?_
        refine wp_seq_k (fun K8 hK8 => ?_)
        refine wp_plain [false, true] rfl rfl ?_
        refine s_call hE rfl Try.call30 (awake21_c  _ ) rfl ?_
        rintro e w7 ⟨rfl, hN⟩
        refine ⟨_, rfl, trivial, ?_⟩; clear hE a; intro a hE
        replace hM : Mem _ _ w7 [_, _, _, _, _, _, _] := hM.call0 hN trivial; clear hN
        refine s_assign hE rfl rfl ?_; clear hE a; intro a hE
        refine q_nil ?_
        replace hE : Env a 112 [(3, _), (4, _), (5, _), (6, _), (43, _), (53, _)] := hE.sel [3, 4, 5, 6, 43, 53] rfl
        refine hK8 _ _ ?_
        refine wp_ret ?_
        refine q_then_r ?_
        refine f_ret1 hE rfl rfl ?_
        exact ⟨(by first | rfl | (simp; done)), hM.pick [] rfl⟩
      · replace hE := hE'; clear hE'
        replace hb53 := of_decide_eq_false hb53
        replace hb53 : ¬ (30 < lb.length) := by omega
        refine wp_cond_false (hE.eval rfl) ?_
        refine wp_skip ?_
        refine hK6 _ _ ?_
        refine wp_seq_k (fun K8 hK8 => ?_)
        refine wp_plain [true, true, false, true, true, true, true, true] rfl rfl ?_
        refine s_indexArr (j := 0) hE rfl rfl arr82 rfl (by decide) rfl ?_; clear hE a; intro a hE
        refine s_load1 hE rfl (hM.get 2 rfl) rfl one77 (by intro X h; cases h) rfl ?_; clear hE a; intro a hE
        refine s_call hE rfl Try.call31 (putwrites_c _ la _ _ (hM.get 5 rfl) ho_la) rfl ?_
        rintro e w7 ⟨v58_0, rfl, hN⟩
        refine ⟨_, rfl, trivial, ?_⟩; clear hE a; intro a hE
        replace hM : Mem _ _ w7 [_, _, _, _, _, _, _, _] := hM.call0 hN ⟨rfl, trivial⟩; clear hN
        refine s_move hE rfl rfl ?_; clear hE a; intro a hE
        refine s_extract hE rfl rfl rfl ?_; clear hE a; intro a hE
        refine s_extract hE rfl rfl rfl ?_; clear hE a; intro a hE
        refine s_assign hE rfl rfl ?_; clear hE a; intro a hE
        refine s_assign hE rfl rfl ?_; clear hE a; intro a hE
        refine q_nil ?_
        replace hE : Env a 112 [(3, _), (4, _), (5, _), (6, _), (11, _), (12, _), (43, _), (53, _)] := hE.sel [3, 4, 5, 6, 11, 12, 43, 53] rfl
        refine hK8 _ _ ?_
        refine wp_seq_k (fun K9 hK9 => ?_)
        refine wp_plain [true, true, false, true, true, true, true, true] rfl rfl ?_
        refine s_indexArr (j := 1) hE rfl rfl arr82 rfl (by decide) rfl ?_; clear hE a; intro a hE
        refine s_load1 hE rfl (hM.get 3 rfl) rfl one77 (by intro X h; cases h) rfl ?_; clear hE a; intro a hE
        refine s_call hE rfl Try.call31 (putwrites_c _ lb _ _ (hM.get 7 rfl) ho_lb) rfl ?_
        rintro e w8 ⟨v64_0, rfl, hN⟩
        refine ⟨_, rfl, trivial, ?_⟩; clear hE a; intro a hE
        replace hM : Mem _ _ w8 [_, _, _, _, _, _, _, _, _] := hM.call0 hN ⟨rfl, trivial⟩; clear hN
        refine s_move hE rfl rfl ?_; clear hE a; intro a hE
        refine s_extract hE rfl rfl rfl ?_; clear hE a; intro a hE
        refine s_extract hE rfl rfl rfl ?_; clear hE a; intro a hE
        refine s_assign hE rfl rfl ?_; clear hE a; intro a hE
        refine s_assign hE rfl rfl ?_; clear hE a; intro a hE
        refine q_nil ?_
        replace hE : Env a 112 [(3, _), (4, _), (5, _), (6, _), (11, _), (12, _), (13, _), (14, _), (43, _), (53, _)] := hE.sel [3, 4, 5, 6, 11, 12, 13, 14, 43, 53] rfl
        refine hK9 _ _ ?_
        refine wp_seq_k (fun K10 hK10 => ?_)
        refine wp_seq_k (fun K11 hK11 => ?_)
        refine wp_plain [true, true, true, true, true, true] rfl rfl ?_
        refine s_move hE rfl rfl ?_; clear hE a; intro a hE
        refine s_bin hE rfl rfl bin_neq rfl ?_; clear hE a; intro a hE
        refine s_move hE rfl rfl ?_; clear hE a; intro a hE
        refine hE.split 69 rfl (fun hb69 hE' => ?_) (fun hb69 hE' => ?_)
        · replace hE := hE'; clear hE'
          replace hb69 := of_decide_eq_false (not_true hb69)
          replace hb69 : ¬ ((putF la) = 0) := by omega
          refine g_no (b := true) hE rfl rfl rfl ?_; clear hE a; intro a hE
          refine g_no (b := true) hE rfl rfl rfl ?_; clear hE a; intro a hE
          refine s_pickt hE rfl rfl rfl ?_; clear hE a; intro a hE
          refine q_nil ?_
          replace hE : Env a 112 [(3, _), (4, _), (5, _), (6, _), (11, _), (13, _), (43, _), (53, _), (72, _)] := hE.sel [3, 4, 5, 6, 11, 13, 43, 53, 72] rfl
          refine hK11 _ _ ?_
          refine wp_cond_true (hE.eval rfl) ?_
          refine wp_seq_k (fun K12 hK12 => ?_)
          refine wp_plain [false, true] rfl rfl ?_
          refine s_call hE rfl Try.call30 (awake21_c  _ ) rfl ?_
          rintro e w9 ⟨rfl, hN⟩
          refine ⟨_, rfl, trivial, ?_⟩; clear hE a; intro a hE
          replace hM : Mem _ _ w9 [_, _, _, _, _, _, _, _, _] := hM.call0 hN trivial; clear hN
          refine s_assign hE rfl rfl ?_; clear hE a; intro a hE
          refine q_nil ?_
          replace hE : Env a 112 [(3, _), (4, _), (5, _), (6, _), (11, _), (13, _), (43, _), (53, _), (72, _)] := hE.sel [3, 4, 5, 6, 11, 13, 43, 53, 72] rfl
          refine hK12 _ _ ?_
          refine wp_ret ?_
          refine q_then_r ?_
          refine f_ret1 hE rfl rfl ?_
          exact ⟨(by first | rfl | (simp; done)), hM.pick [] rfl⟩
        · replace hE := hE'; clear hE'
          replace hb69 := of_decide_eq_true (not_false' hb69)
          replace hb69 : (putF la) = 0 := by omega
          refine g_yes hE rfl rfl ?_
          refine s_move hE rfl rfl ?_; clear hE a; intro a hE
          refine g_yes hE rfl rfl ?_
          refine s_bin hE rfl rfl bin_neq rfl ?_; clear hE a; intro a hE
          refine s_pickf hE rfl rfl rfl ?_; clear hE a; intro a hE
          refine q_nil ?_
          replace hE : Env a 112 [(3, _), (4, _), (5, _), (6, _), (11, _), (13, _), (43, _), (53, _), (72, _)] := hE.sel [3, 4, 5, 6, 11, 13, 43, 53, 72] rfl
          refine hK11 _ _ ?_
          refine hE.split 72 rfl (fun hb72 hE' => ?_) (fun hb72 hE' => ?_)
          · replace hE := hE'; clear hE'
            replace hb72 := of_decide_eq_false (not_true hb72)
            replace hb72 : ¬ ((putF lb) = 0) := by omega
            refine wp_cond_true (hE.eval rfl) ?_
            refine wp_seq_k (fun K12 hK12 => ?_)
            refine wp_plain [false, true] rfl rfl ?_
            refine s_call hE rfl Try.call30 (awake21_c  _ ) rfl ?_
            rintro e w9 ⟨rfl, hN⟩
            refine ⟨_, rfl, trivial, ?_⟩; clear hE a; intro a hE
            replace hM : Mem _ _ w9 [_, _, _, _, _, _, _, _, _] := hM.call0 hN trivial; clear hN
            refine s_assign hE rfl rfl ?_; clear hE a; intro a hE
            refine q_nil ?_
            replace hE : Env a 112 [(3, _), (4, _), (5, _), (6, _), (11, _), (13, _), (43, _), (53, _), (72, _)] := hE.sel [3, 4, 5, 6, 11, 13, 43, 53, 72] rfl
            refine hK12 _ _ ?_
            refine wp_ret ?_
            refine q_then_r ?_
            refine f_ret1 hE rfl rfl ?_
            exact ⟨(by first | rfl | (simp; done)), hM.pick [] rfl⟩
          · replace hE := hE'; clear hE'
            replace hb72 := of_decide_eq_true (not_false' hb72)
            replace hb72 : (putF lb) = 0 := by omega
            have hpa := put_apartB ho_la (by omega) ho_lb (by omega)
            refine wp_cond_false (hE.eval rfl) ?_
            refine wp_skip ?_
            refine hK10 _ _ ?_
            refine wp_seq_k (fun K12 hK12 => ?_)
            refine wp_plain [true, true, true, true, true, true, true, true] rfl rfl ?_
            refine s_indexArr (j := 0) hE rfl rfl arr82 rfl (by decide) rfl ?_; clear hE a; intro a hE
            refine s_load1 hE rfl (hM.get 4 rfl) rfl one77 (by intro X h; cases h) rfl ?_; clear hE a; intro a hE
            refine s_len hE rfl Try.underlying77 (rd_slice (hM.get 7 rfl)) rfl ?_; clear hE a; intro a hE
            refine s_indexArr (j := 1) hE rfl rfl arr82 rfl (by decide) rfl ?_; clear hE a; intro a hE
            refine s_load1 hE rfl (hM.get 4 rfl) rfl one77 (by intro X h; cases h) rfl ?_; clear hE a; intro a hE
            refine s_len hE rfl Try.underlying77 (rd_slice (hM.get 8 rfl)) rfl ?_; clear hE a; intro a hE
            refine s_bin hE rfl rfl bin_eql rfl ?_; clear hE a; intro a hE
            refine s_assign hE rfl rfl ?_; clear hE a; intro a hE
            refine q_nil ?_
            replace hE : Env a 112 [(3, _), (4, _), (5, _), (6, _), (11, _), (13, _), (15, _), (43, _), (53, _), (72, _)] := hE.sel [3, 4, 5, 6, 11, 13, 15, 43, 53, 72] rfl
            refine hK12 _ _ ?_
            refine wp_seq_k (fun K13 hK13 => ?_)
            refine wp_seq_k (fun K14 hK14 => ?_)
            refine wp_plain [true] rfl rfl ?_
            refine s_assign hE rfl rfl ?_; clear hE a; intro a hE
            refine q_nil ?_
            refine hK14 _ _ ?_
            refine wp_block ?_
            replace hE := hE.cast 15 rfl (show _ = Value.bool (sameW la lb 0) from (congrArg Value.bool sameW_zero))
            refine c_loop (fun (i : Nat) a w' => i ≤ la.length ∧ Env a 112 [(3, .pointer (some ⟨b3, 0, none⟩)), (4, .pointer (some ⟨b4, 0, none⟩)), (5, .pointer (some ⟨b5, 0, none⟩)), (6, .bool false), (11, v58_0), (13, v64_0), (15, .bool (sameW la lb i)), (16, .int .i64 ((i : Nat) : Int)), (43, .bool false), (53, .bool false), (72, .bool false)] ∧ Mem w [] w' [own v64_0 1 (putW lb).length (bv (putW lb)), own v58_0 1 (putW la).length (bv (putW la)), own v24 1 (putL cB tB hB bB mB yB).length (bv (putL cB tB hB bB mB yB)), own v19 1 (putL cA tA hA bA mA yA).length (bv (putL cA tA hA bA mA yA)), blk b5 [[u], [v]] [1, 1] 82, blk b4 [[.int .u64 ((cB : Nat) : Int)], bv tB, bv hB, bv bB, [.int .i64 mB], [.int .i64 yB]] [1, 32, 32, 32, 1, 1] 67, blk b3 [[.int .u64 ((cA : Nat) : Int)], bv tA, bv hA, bv bA, [.int .i64 mA], [.int .i64 yA]] [1, 32, 32, 32, 1, 1] 67, rd u 66 la.length ca (la.flatMap wcl), rd v 66 lb.length cb (lb.flatMap wcl)]) (fun i => la.length - i) 0 ⟨Nat.zero_le _, hE.sel [3, 4, 5, 6, 11, 13, 15, 16, 43, 53, 72] rfl, hM⟩ ?_
            clear hE hM a; rintro i a w9 ⟨hi, hE, hM⟩
            refine wp_seq_k (fun K15 hK15 => ?_)
            refine wp_seq_k (fun K16 hK16 => ?_)
            refine wp_plain [true, true, true, true, true, true, true, true] rfl rfl ?_
            refine s_move hE rfl rfl ?_; clear hE a; intro a hE
            refine s_indexArr (j := 0) hE rfl rfl arr82 rfl (by decide) rfl ?_; clear hE a; intro a hE
            refine s_load1 hE rfl (hM.get 4 rfl) rfl one77 (by intro X h; cases h) rfl ?_; clear hE a; intro a hE
            refine s_len hE rfl Try.underlying77 (rd_slice (hM.get 7 rfl)) rfl ?_; clear hE a; intro a hE
            refine s_bin hE rfl rfl bin_lss rfl ?_; clear hE a; intro a hE
            refine s_move hE rfl rfl ?_; clear hE a; intro a hE
            refine hE.split 86 rfl (fun hb86 hE' => ?_) (fun hb86 hE' => ?_)
            · replace hE := hE'; clear hE'
              replace hb86 := of_decide_eq_true hb86
              replace hb86 : i < la.length := by omega
              replace hb86 : i < la.length := by omega
              refine g_yes hE rfl rfl ?_
              refine s_move hE rfl rfl ?_; clear hE a; intro a hE
              refine s_pickt hE rfl rfl rfl ?_; clear hE a; intro a hE
              refine q_nil ?_
              replace hE : Env a 112 [(3, _), (4, _), (5, _), (6, _), (11, _), (13, _), (15, _), (16, _), (43, _), (53, _), (72, _), (88, _)] := hE.sel [3, 4, 5, 6, 11, 13, 15, 16, 43, 53, 72, 88] rfl
              refine hK16 _ _ ?_
              refine hE.split 88 rfl (fun hb88 hE' => ?_) (fun hb88 hE' => ?_)
              · replace hE := hE'; clear hE'
                have hll := sameW_len hb88
                refine wp_cond_true (hE.eval rfl) ?_
                refine wp_skip ?_
                refine hK15 _ _ ?_
                refine wp_seq_k (fun K17 hK17 => ?_)
                refine wp_block ?_
                refine wp_drawnM hM (by kernel_rfl) (fun _ => False) [(0, true), (1, true), (2, true), (3, true), (4, true), (5, true), (6, true), (7, true), (8, true), (9, true), (10, true), (11, true)] [] (by kernel_rfl) rfl ?_
                intro w10 hM' hww10; clear hM; have hM := hM'; clear hM'
                refine s_indexArr (j := 0) hE rfl rfl arr82 rfl (by decide) rfl ?_; clear hE a; intro a hE
                refine s_load1 hE rfl (hM.get 4 rfl) rfl one77 (by intro X h; cases h; simp) rfl ?_; clear hE a; intro a hE
                refine s_move hE rfl rfl ?_; clear hE a; intro a hE
                refine s_indexRd (j := i) hE rfl (hM.get 7 rfl) rfl slt77 (by first | rfl | omega) (by omega) rfl ?_; clear hE a; intro a p94 hE hc94 hp94
                have hlj94 : i < la.length := (by omega)
                have hok94 := ho_la _ (getD_mem (d := wr0) hlj94)
                rw [flat_elem (d := wr0) (fun x hx => wcl_len ((ho_la x hx)).1) hlj94] at hc94
                refine s_loadAtN hE rfl hc94 (by rw [wcl_len hok94.1]; exact row84) (by intro X h; cases h; simp) rfl ?_; clear hE a; intro a hE
                replace hE := hE.cast 95 rfl (show _ = Value.agg ([[.int .i64 ((la.getD i wr0).1)], [.int .i64 ((la.getD i wr0).2.1)], bv ((la.getD i wr0).2.2)] : List (List Value)).flatten.toArray from rfl)
                refine s_indexArr (j := 1) hE rfl rfl arr82 rfl (by decide) rfl ?_; clear hE a; intro a hE
                refine s_load1 hE rfl (hM.get 4 rfl) rfl one77 (by intro X h; cases h; simp) rfl ?_; clear hE a; intro a hE
                refine s_move hE rfl rfl ?_; clear hE a; intro a hE
                refine s_indexRd (j := i) hE rfl (hM.get 8 rfl) rfl slt77 (by first | rfl | omega) (by omega) rfl ?_; clear hE a; intro a p99 hE hc99 hp99
                have hlj99 : i < lb.length := (by omega)
                have hok99 := ho_lb _ (getD_mem (d := wr0) hlj99)
                rw [flat_elem (d := wr0) (fun x hx => wcl_len ((ho_lb x hx)).1) hlj99] at hc99
                refine s_loadAtN hE rfl hc99 (by rw [wcl_len hok99.1]; exact row84) (by intro X h; cases h; simp) rfl ?_; clear hE a; intro a hE
                replace hE := hE.cast 100 rfl (show _ = Value.agg ([[.int .i64 ((lb.getD i wr0).1)], [.int .i64 ((lb.getD i wr0).2.1)], bv ((lb.getD i wr0).2.2)] : List (List Value)).flatten.toArray from rfl)
                refine s_bin hE rfl rfl ((eqk84 (b := decide ((((la.getD i wr0).1) : Int) = ((lb.getD i wr0).1) ∧ (((la.getD i wr0).2.1) : Int) = ((lb.getD i wr0).2.1) ∧ ((la.getD i wr0).2.2) = ((lb.getD i wr0).2.2))) (kl84 (k := 0) (x0 := ((la.getD i wr0).1)) (x1 := ((la.getD i wr0).2.1)) (x2 := (la.getD i wr0).2.2) (wf_i64 hok94.2.1) (wf_i64 hok94.2.2) hok94.1) (kl84 (k := 0) (x0 := ((lb.getD i wr0).1)) (x1 := ((lb.getD i wr0).2.1)) (x2 := (lb.getD i wr0).2.2) (wf_i64 hok99.2.1) (wf_i64 hok99.2.2) hok99.1) (by rw [flat_eq (by have hl_x2 : ((la.getD i wr0).2.2).length = 64 := hok94.1; have hl_y2 : ((lb.getD i wr0).2.2).length = 64 := hok99.1; simp only [List.map_cons, List.map_nil, bv_length, List.length_cons, List.length_nil, hl_x2, hl_y2])]; simp [bv_iff, Int.ofNat_inj]; try omega)).1) rfl ?_; clear hE a; intro a hE
                refine s_assign hE rfl rfl ?_; clear hE a; intro a hE
                refine q_nil ?_
                replace hE : Env a 112 [(3, _), (4, _), (5, _), (6, _), (11, _), (13, _), (15, _), (16, _), (43, _), (53, _), (72, _), (88, _)] := hE.sel [3, 4, 5, 6, 11, 13, 15, 16, 43, 53, 72, 88] rfl
                refine q_block_n ?_
                refine hK17 _ _ ?_
                refine wp_plain [true, true, true] rfl rfl ?_
                refine s_move hE rfl rfl ?_; clear hE a; intro a hE
                refine s_bin hE rfl rfl (show Bin _ _ _ _ _ (.int .i64 ((i + 1 : Nat) : Int)) from bin_add (by rw [wrap_i64 (by omega) (by omega)]; omega)) rfl ?_; clear hE a; intro a hE
                refine s_assign hE rfl rfl ?_; clear hE a; intro a hE
                refine q_nil ?_
                replace hE : Env a 112 [(3, _), (4, _), (5, _), (6, _), (11, _), (13, _), (15, _), (16, _), (43, _), (53, _), (72, _), (88, _)] := hE.sel [3, 4, 5, 6, 11, 13, 15, 16, 43, 53, 72, 88] rfl
                replace hE := hE.cast 15 rfl (show _ = Value.bool (sameW la lb (i + 1)) from (congrArg Value.bool (sameW_succ (by assumption) (by omega))))
                replace hE := hE.cast 16 rfl (show _ = Value.int .i64 (((i + 1) : Nat) : Int) from (congrArg _ (by omega)))
                replace hM : Mem _ _ w10 [_, _, _, _, _, _, _, _, _] := hM.pick [0, 1, 2, 3, 4, 5, 6, 7, 8] rfl
                exact ⟨i + 1, ⟨by omega, hE.sel [3, 4, 5, 6, 11, 13, 15, 16, 43, 53, 72] rfl, hM⟩, by omega⟩
              · replace hE := hE'; clear hE'
                have hne := sameW_not hb88
                refine wp_cond_false (hE.eval rfl) ?_
                refine wp_exit ?_
                refine q_then_e ?_
                refine q_then_e ?_
                refine q_block_x ?_
                refine hK13 _ _ ?_
                refine wp_seq_k (fun K17 hK17 => ?_)
                refine wp_plain [true, true, true, true, true, true, true, true, false, true, true] rfl rfl ?_
                refine s_move hE rfl rfl ?_; clear hE a; intro a hE
                obtain ⟨cs103, hs103⟩ := own_rd (hM.get 1 rfl)
                refine s_toStr hE rfl Try.underlying55 Try.underlying5 Try.underlying9 hs103 (by intro X h; cases h) rfl ?_; clear hE a; intro a hE
                refine s_move hE rfl rfl ?_; clear hE a; intro a hE
                obtain ⟨cs105, hs105⟩ := own_rd (hM.get 0 rfl)
                refine s_toStr hE rfl Try.underlying55 Try.underlying5 Try.underlying9 hs105 (by intro X h; cases h) rfl ?_; clear hE a; intro a hE
                refine s_bin hE rfl rfl bins_str.1 rfl ?_; clear hE a; intro a hE
                refine s_move hE rfl rfl ?_; clear hE a; intro a hE
                refine s_bin hE rfl rfl (bins_bool Try.underlying4).1 rfl ?_; clear hE a; intro a hE
                refine s_move hE rfl rfl ?_; clear hE a; intro a hE
                replace hE := hE.cast 109 rfl (show _ = Value.bool true from (congrArg Value.bool (by show (decide (putW la = putW lb) == _) = true; rw [hpa, hb88, hne]; rfl)))
                refine g_yes hE rfl rfl ?_
                refine s_call hE rfl Try.call30 (awake21_c  _ ) rfl ?_
                rintro e w10 ⟨rfl, hN⟩
                refine ⟨_, rfl, trivial, ?_⟩; clear hE a; intro a hE
                replace hM : Mem _ _ w10 [_, _, _, _, _, _, _, _, _] := hM.call0 hN trivial; clear hN
                refine s_pickt hE rfl rfl rfl ?_; clear hE a; intro a hE
                refine s_assign hE rfl rfl ?_; clear hE a; intro a hE
                refine q_nil ?_
                replace hE : Env a 112 [(3, _), (4, _), (5, _), (6, _), (15, _), (16, _), (43, _), (53, _), (72, _), (88, _)] := hE.sel [3, 4, 5, 6, 15, 16, 43, 53, 72, 88] rfl
                refine hK17 _ _ ?_
                refine wp_ret ?_
                refine f_ret1 hE rfl rfl ?_
                exact ⟨(by first | rfl | (simp; done)), hM.pick [] rfl⟩
            · replace hE := hE'; clear hE'
              replace hb86 := of_decide_eq_false hb86
              replace hb86 : ¬ (i < la.length) := by omega
              obtain rfl : la.length = i := by omega
              refine g_no (b := false) hE rfl rfl rfl ?_; clear hE a; intro a hE
              refine s_pickf hE rfl rfl rfl ?_; clear hE a; intro a hE
              refine q_nil ?_
              replace hE : Env a 112 [(3, _), (4, _), (5, _), (6, _), (11, _), (13, _), (15, _), (16, _), (43, _), (53, _), (72, _), (88, _)] := hE.sel [3, 4, 5, 6, 11, 13, 15, 16, 43, 53, 72, 88] rfl
              refine hK16 _ _ ?_
              refine wp_cond_false (hE.eval rfl) ?_
              refine wp_exit ?_
              refine q_then_e ?_
              refine q_then_e ?_
              refine q_block_x ?_
              refine hK13 _ _ ?_
              refine wp_seq_k (fun K17 hK17 => ?_)
              refine wp_plain [true, true, true, true, true, true, true, true, false, true, true] rfl rfl ?_
              refine s_move hE rfl rfl ?_; clear hE a; intro a hE
              obtain ⟨cs103, hs103⟩ := own_rd (hM.get 1 rfl)
              refine s_toStr hE rfl Try.underlying55 Try.underlying5 Try.underlying9 hs103 (by intro X h; cases h) rfl ?_; clear hE a; intro a hE
              refine s_move hE rfl rfl ?_; clear hE a; intro a hE
              obtain ⟨cs105, hs105⟩ := own_rd (hM.get 0 rfl)
              refine s_toStr hE rfl Try.underlying55 Try.underlying5 Try.underlying9 hs105 (by intro X h; cases h) rfl ?_; clear hE a; intro a hE
              refine s_bin hE rfl rfl bins_str.1 rfl ?_; clear hE a; intro a hE
              refine s_move hE rfl rfl ?_; clear hE a; intro a hE
              refine s_bin hE rfl rfl (bins_bool Try.underlying4).1 rfl ?_; clear hE a; intro a hE
              refine s_move hE rfl rfl ?_; clear hE a; intro a hE
              replace hE := hE.cast 109 rfl (show _ = Value.bool true from (congrArg Value.bool (by show (decide (putW la = putW lb) == _) = true; rw [hpa, sameW_end]; simp)))
              refine g_yes hE rfl rfl ?_
              refine s_call hE rfl Try.call30 (awake21_c  _ ) rfl ?_
              rintro e w10 ⟨rfl, hN⟩
              refine ⟨_, rfl, trivial, ?_⟩; clear hE a; intro a hE
              replace hM : Mem _ _ w10 [_, _, _, _, _, _, _, _, _] := hM.call0 hN trivial; clear hN
              refine s_pickt hE rfl rfl rfl ?_; clear hE a; intro a hE
              refine s_assign hE rfl rfl ?_; clear hE a; intro a hE
              refine q_nil ?_
              replace hE : Env a 112 [(3, _), (4, _), (5, _), (6, _), (15, _), (16, _), (43, _), (53, _), (72, _), (88, _)] := hE.sel [3, 4, 5, 6, 15, 16, 43, 53, 72, 88] rfl
              refine hK17 _ _ ?_
              refine wp_ret ?_
              refine f_ret1 hE rfl rfl ?_
              exact ⟨(by first | rfl | (simp; done)), hM.pick [] rfl⟩
set_option maxRecDepth 100000 in
theorem recordApart_lifted (os : Os) (started : os.Started) (H : Type) (enc : TypeId × Value → H) :
    ReturnsInHanded {} Try.checked os 10 .any (Rows.recordApartSpec.pre6 enc Try.prog Try.f10 Rows.recordApartRow.domain false) (Rows.recordApartSpec.post enc Try.prog Try.f10 false true false false) := by
  refine law_lifted (C := Try.checked) (fn := Try.f10) (by kernel_rfl) started (by kernel_rfl) Try.func10 rfl (fun ds hl => ?_) rfl Try.underlying4 (by kernel_rfl) (of_decide_eq_true (by kernel_rfl)) (ChangeSpec.witness6 (enc := enc) (C := Try.checked) false ⟨#[], #[.agg ([[.int .u64 0], bv (List.replicate 32 0), bv (List.replicate 32 0), bv (List.replicate 32 0), [.int .i64 0], [.int .i64 0]] : List (List Value)).flatten.toArray, .agg ([[.int .u64 0], bv (List.replicate 32 0), bv (List.replicate 32 0), bv (List.replicate 32 0), [.int .i64 0], [.int .i64 0]] : List (List Value)).flatten.toArray, .agg ([[.slice none 0 0], [.slice none 0 0]] : List (List Value)).flatten.toArray], []⟩ 8 (by kernel_rfl) (by kernel_rfl) (by kernel_rfl) (by kernel_rfl)) ?_
  · rw [Try.params10] at hl
    match ds, hl with
    | [_, _, _], _ => rfl
  · intro W base args ds ps hval hA hw
    rw [Try.params10] at hA hval hw
    obtain ⟨v0, vs0, d0, ds0, p0, q0, hargs, rfl, rfl, h0, r0⟩ := trodAll_cons hA
    obtain ⟨v1, vs1, d1, ds1, p1, q1, rfl, rfl, rfl, h1, r1⟩ := trodAll_cons r0
    obtain ⟨v2, vs2, d2, ds2, p2, q2, rfl, rfl, rfl, h2, r2⟩ := trodAll_cons r1
    obtain ⟨rfl, rfl, rfl⟩ := trodAll_nil r2
    obtain rfl : args = #[v0, v1, v2] := by cases args; simp_all
    obtain ⟨cs0, rfl, hcs0⟩ := okWide_struct Try.underlying67 (hval 0 67 v0 rfl rfl)
    obtain ⟨hl0, hp0⟩ := trod_of (dec_structL (t := 67) (s := 99) [(24, 0, 1, _), (27, 1, 32, _), (27, 33, 32, _), (27, 65, 32, _), (3, 97, 1, _), (3, 98, 1, _)] Try.underlying67 (by kernel_rfl) (by kernel_rfl) (by
      intro p hp; simp only [List.mem_cons, List.not_mem_nil, or_false] at hp
      rcases hp with rfl | rfl | rfl | rfl | rfl | rfl
      · exact dec_int Try.underlying24
      · exact dec_arr8 Try.underlying27 Try.underlying5 (by kernel_rfl) (by kernel_rfl)
      · exact dec_arr8 Try.underlying27 Try.underlying5 (by kernel_rfl) (by kernel_rfl)
      · exact dec_arr8 Try.underlying27 Try.underlying5 (by kernel_rfl) (by kernel_rfl)
      · exact dec_int Try.underlying3
      · exact dec_int Try.underlying3)) h0 (fun m hm => hw m (by simp only [DataW.weightsEach, List.mem_append]; exact .inl hm))
    obtain ⟨zca, hq0_0, hq0_0a, hq0_0b⟩ := hp0 _ (.head _)
    obtain ⟨ta, hq0_1, hta⟩ := hp0 _ (.tail _ (.head _))
    obtain ⟨ha, hq0_2, hha⟩ := hp0 _ (.tail _ (.tail _ (.head _)))
    obtain ⟨ba, hq0_3, hba⟩ := hp0 _ (.tail _ (.tail _ (.tail _ (.head _))))
    obtain ⟨ma, hq0_4, hq0_4a, hq0_4b⟩ := hp0 _ (.tail _ (.tail _ (.tail _ (.tail _ (.head _)))))
    obtain ⟨ya, hq0_5, hq0_5a, hq0_5b⟩ := hp0 _ (.tail _ (.tail _ (.tail _ (.tail _ (.tail _ (.head _))))))
    have ecs0 := agg_of (cut_all [1, 32, 32, 32, 1, 1] (ps := [[.int .u64 zca], bv ta, bv ha, bv ba, [.int .i64 ma], [.int .i64 ya]]) hl0 ⟨hq0_0, hq0_1, hq0_2, hq0_3, hq0_4, hq0_5, trivial⟩)
    subst ecs0
    obtain ⟨ca, rfl⟩ := Int.eq_ofNat_of_zero_le (show 0 ≤ zca from hq0_0a)
    have hca : ca < 18446744073709551616 := by have h : (ca : Int) ≤ 18446744073709551615 := hq0_0b; omega
    have hma : -9223372036854775808 ≤ ma ∧ ma ≤ 9223372036854775807 := ⟨hq0_4a, hq0_4b⟩
    have hya : -9223372036854775808 ≤ ya ∧ ya ≤ 9223372036854775807 := ⟨hq0_5a, hq0_5b⟩
    obtain ⟨cs1, rfl, hcs1⟩ := okWide_struct Try.underlying67 (hval 1 67 v1 rfl rfl)
    obtain ⟨hl1, hp1⟩ := trod_of (dec_structL (t := 67) (s := 99) [(24, 0, 1, _), (27, 1, 32, _), (27, 33, 32, _), (27, 65, 32, _), (3, 97, 1, _), (3, 98, 1, _)] Try.underlying67 (by kernel_rfl) (by kernel_rfl) (by
      intro p hp; simp only [List.mem_cons, List.not_mem_nil, or_false] at hp
      rcases hp with rfl | rfl | rfl | rfl | rfl | rfl
      · exact dec_int Try.underlying24
      · exact dec_arr8 Try.underlying27 Try.underlying5 (by kernel_rfl) (by kernel_rfl)
      · exact dec_arr8 Try.underlying27 Try.underlying5 (by kernel_rfl) (by kernel_rfl)
      · exact dec_arr8 Try.underlying27 Try.underlying5 (by kernel_rfl) (by kernel_rfl)
      · exact dec_int Try.underlying3
      · exact dec_int Try.underlying3)) h1 (fun m hm => hw m (by simp only [DataW.weightsEach, List.mem_append]; exact .inr (.inl hm)))
    obtain ⟨zcb, hq1_0, hq1_0a, hq1_0b⟩ := hp1 _ (.head _)
    obtain ⟨tb, hq1_1, htb⟩ := hp1 _ (.tail _ (.head _))
    obtain ⟨hb, hq1_2, hhb⟩ := hp1 _ (.tail _ (.tail _ (.head _)))
    obtain ⟨bb, hq1_3, hbb⟩ := hp1 _ (.tail _ (.tail _ (.tail _ (.head _))))
    obtain ⟨mb, hq1_4, hq1_4a, hq1_4b⟩ := hp1 _ (.tail _ (.tail _ (.tail _ (.tail _ (.head _)))))
    obtain ⟨yb, hq1_5, hq1_5a, hq1_5b⟩ := hp1 _ (.tail _ (.tail _ (.tail _ (.tail _ (.tail _ (.head _))))))
    have ecs1 := agg_of (cut_all [1, 32, 32, 32, 1, 1] (ps := [[.int .u64 zcb], bv tb, bv hb, bv bb, [.int .i64 mb], [.int .i64 yb]]) hl1 ⟨hq1_0, hq1_1, hq1_2, hq1_3, hq1_4, hq1_5, trivial⟩)
    subst ecs1
    obtain ⟨cb, rfl⟩ := Int.eq_ofNat_of_zero_le (show 0 ≤ zcb from hq1_0a)
    have hcb : cb < 18446744073709551616 := by have h : (cb : Int) ≤ 18446744073709551615 := hq1_0b; omega
    have hmb : -9223372036854775808 ≤ mb ∧ mb ≤ 9223372036854775807 := ⟨hq1_4a, hq1_4b⟩
    have hyb : -9223372036854775808 ≤ yb ∧ yb ≤ 9223372036854775807 := ⟨hq1_5a, hq1_5b⟩
    obtain ⟨va2, vb2, la2, lb2, ca2, cb2, rfl, ra2, oa2, rb2, ob2⟩ := arg_twoRows (es := 66) (by_ := 80) Try.underlying82 (by kernel_rfl) (by kernel_rfl) Try.underlying77 (by kernel_rfl) (by kernel_rfl) (by decide) (dec_wr (t0 := 3) (t1 := 3) (t2 := 59) Try.underlying84 (by kernel_rfl) (by kernel_rfl) Try.underlying3 Try.underlying3 Try.underlying59 Try.underlying5 (by kernel_rfl) (by kernel_rfl)) (hval 2 82 v2 rfl rfl) h2 (fun m hm => hw m (by simp only [DataW.weightsEach, List.mem_append]; exact .inr (.inr (.inl hm))))
    exact recordApart_c ca ta ha ba ma ya cb tb hb bb mb yb va2 la2 ca2 vb2 lb2 cb2 W hta hha hba htb hhb hbb ra2 oa2 rb2 ob2 hca hma hya hcb hmb hyb

/-- The statement. -/
theorem recordApart_holds : Rows.RecordApartSaid :=
  OpenClaim.holds_of_wide 10 Try.f10 rfl rfl rfl rfl rfl rfl rfl ⟨rfl, rfl, rfl, rfl, rfl⟩ rfl rfl rfl rfl rfl (by kernel_rfl) Try.func10 (by kernel_rfl)
    (of_decide_eq_true (by kernel_rfl)) (by unfold Func.isWrapper; first | (rw [if_pos (by decide +kernel)]; kernel_rfl) | (rw [if_neg (by decide +kernel)]; exact ⟨rfl, rfl⟩))
    (fun os started H enc _ => recordApart_lifted os started H enc)
#print axioms recordApart_holds
end Go.Proofs.Ytlieojojahhmmaa
