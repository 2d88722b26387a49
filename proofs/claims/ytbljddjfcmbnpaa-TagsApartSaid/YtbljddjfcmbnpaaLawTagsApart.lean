/- TagsApart of casematelaw17 returns true for whatever two things; their bytes read behind the call as before. No condition. -/
import Derived.Test.YtbljddjfcmbnpaaLt
namespace Go.Proofs.Ytbljddjfcmbnpaa
open Go Go.Kx
open Go.ChangeShapes Go.WideShapes Go.ChangeAt Go.RowKit
theorem fo26_0 : fieldOff Try.prog 26 0 = some 0 := by kernel_rfl
theorem one5 : OneT Try.prog 5 := OneT.of Try.underlying5 rfl (by kernel_rfl)
theorem fo26_1 : fieldOff Try.prog 26 1 = some 1 := by kernel_rfl
theorem one3 : OneT Try.prog 3 := OneT.of Try.underlying3 rfl (by kernel_rfl)
theorem fo26_2 : fieldOff Try.prog 26 2 = some 2 := by kernel_rfl
theorem fo26_3 : fieldOff Try.prog 26 3 = some 66 := by kernel_rfl
theorem eqa23 : ∀ {a b : List UInt8}, a.length = 64 → b.length = 64 → Bin Try.prog .eql 23 (.agg (bv a).toArray) (.agg (bv b).toArray) (.bool (decide (a = b))) ∧ Bin Try.prog .neq 23 (.agg (bv a).toArray) (.agg (bv b).toArray) (.bool (!decide (a = b))) := fun ha hb => bins_arr8 Try.underlying23 (by kernel_rfl) Try.underlying5 (by kernel_rfl) (by kernel_rfl) ha hb
theorem row26 : RowT Try.prog 26 67 := RowT.of Try.underlying26 rfl (by kernel_rfl)
theorem rep_c (w : World) : Calls Try.prog 10 #[.string (tx [0]), .int .i64 64] w fun e w' => e = .returned (.string (tx (List.replicate 64 0))) ∧ Mem w [] w' [] :=
  (Try.strings_Repeat (tx [0]) 64 w (by decide) (by decide)).mono fun e w' ⟨h1, h2⟩ => ⟨by rw [h1, show Lib.repeatL (tx [0]).data.toList 64 = List.replicate 64 0 from by decide +kernel]; rfl, Mem.ofBelow h2⟩
theorem awake17_c (w : World) : Calls Try.prog 5 #[] w fun e w' => e = .returned (.bool true) ∧ Mem w [] w' [] := by
  have hM := Mem.start0 w
  refine f_enter 12 Try.func5 rfl rfl rfl ?_
  intro a hE
  replace hE : Env a 12 [] := hE
  refine wp_seq_k (fun K1 hK1 => ?_)
  refine wp_plain [true] rfl rfl ?_
  refine s_assign hE rfl rfl ?_; clear hE a; intro a hE
  refine q_nil ?_
  refine hK1 _ _ ?_
  refine wp_seq_k (fun K2 hK2 => ?_)
  refine wp_drawnM hM (by kernel_rfl) (fun _ => False) [(0, true), (1, false), (2, true), (3, false), (4, true), (5, true), (6, true), (7, false), (8, true), (9, true), (10, true), (11, true)] [(1, [(2, 1), (3, 1), (4, 3), (5, 2), (6, 3), (7, 6), (8, 6), (9, 8), (10, 9), (11, 1)]), (3, [(4, 3), (5, 4), (6, 3), (7, 6), (8, 6), (9, 8), (10, 9), (11, 3)]), (7, [(8, 7), (9, 8), (10, 9), (11, 7)])] (by kernel_rfl) rfl ?_
  intro w1 hM' hww1; clear hM; have hM := hM'; clear hM'
  refine s_build (r := .agg (bv (List.replicate 64 0)).toArray) _ hE rfl (fun w => by kernel_rfl) rfl ?_; clear hE a; intro a hE
  refine s_call hE rfl Try.call9 (leaftext_c 258 (List.replicate 64 0) _ (by simp)) rfl ?_
  rintro e w2 ⟨vl, rfl, hN⟩
  refine ⟨_, rfl, hN.sta0 _, ?_⟩; clear hE a; intro a hE
  replace hM : Mem _ _ w2 [_] := hM.call0 hN ⟨rfl, trivial⟩; clear hN
  obtain ⟨cs3, hs3⟩ := own_rd (hM.get 0 rfl)
  refine s_toStr hE rfl Try.underlying24 Try.underlying5 Try.underlying9 hs3 (by intro X h; cases h; simp) rfl ?_; clear hE a; intro a hE
  refine s_call hE rfl Try.call10 (rep_c _) rfl ?_
  rintro e w3 ⟨rfl, hN⟩
  refine ⟨_, rfl, hN.sta0 _, ?_⟩; clear hE a; intro a hE
  replace hM : Mem _ _ w3 [_] := hM.call0 hN trivial; clear hN
  refine s_bin hE rfl rfl (bin_add_str (by decide)) rfl ?_; clear hE a; intro a hE
  refine s_bin hE rfl rfl bins_str.1 rfl ?_; clear hE a; intro a hE
  refine s_move hE rfl rfl ?_; clear hE a; intro a hE
  replace hE := hE.cast 7 rfl (show _ = Value.bool true from (congrArg Value.bool (by decide +kernel)))
  refine g_yes hE rfl rfl ?_
  refine s_call hE rfl Try.call11 (roottext_c (.slice none 0 0) [] 0 _ ⟨rfl, .inl ⟨none, rfl, rfl, rfl⟩⟩ (by decide)) rfl ?_
  rintro e w4 ⟨vr, rfl, hN⟩
  refine ⟨_, rfl, hN.sta0 _, ?_⟩; clear hE a; intro a hE
  replace hM : Mem _ _ w4 [_, _] := hM.call0 hN ⟨rfl, trivial⟩; clear hN
  refine g_yes hE rfl rfl ?_
  obtain ⟨cs9, hs9⟩ := own_rd (hM.get 0 rfl)
  refine s_toStr hE rfl Try.underlying24 Try.underlying5 Try.underlying9 hs9 (by intro X h; cases h; simp) rfl ?_; clear hE a; intro a hE
  refine g_yes hE rfl rfl ?_
  refine s_bin hE rfl rfl bins_str.1 rfl ?_; clear hE a; intro a hE
  refine s_pickt hE rfl rfl rfl ?_; clear hE a; intro a hE
  refine s_assign hE rfl rfl ?_; clear hE a; intro a hE
  refine q_nil ?_
  replace hE : Env a 12 [(0, _)] := hE.sel [0] rfl
  refine hK2 _ _ ?_
  refine wp_ret ?_
  refine f_ret1 hE rfl rfl ?_
  exact ⟨by first | rfl | (refine congrArg _ (congrArg Value.bool ?_); decide +kernel), hM.nil⟩
theorem text_c (kd : UInt8) (z : Int) (s : List UInt8) (v : Value) (bs : List UInt8) (c : Nat) (w : World) (hs : s.length = 64) (hr : (rd v 1 bs.length c (bv bs)).holds w) (hb : bs.length ≤ 100000) : Calls Try.prog 6 #[.agg ([[bV kd], [.int .i64 z], bv s, [v]]).flatten.toArray] w fun e w' => ∃ v', e = .returned v' ∧ Mem w [] w' [own v' 1 (txt kd.toNat z s bs).length (bv (txt kd.toNat z s bs))] := by
  have hM := Mem.startR1 hr rfl
  refine f_enter 33 Try.func6 rfl rfl rfl ?_
  intro a hE
  replace hE : Env a 33 [(0, _)] := hE
  refine wp_seq_k (fun K1 hK1 => ?_)
  refine wp_plain [false, true] rfl rfl ?_
  refine s_box (ss := [[bV kd], [.int .i64 z], bv s, [v]]) [1, 1, 64, 1] hE hM rfl rfl (by simp [hs]) rfl ?_; clear hE a; intro a b1 w1 hE hM'
  clear hM; have hM := hM'; clear hM'
  refine s_assign hE rfl rfl ?_; clear hE a; intro a hE
  refine q_nil ?_
  replace hE : Env a 33 [(1, _), (2, _)] := hE.sel [1, 2] rfl
  refine hK1 _ _ ?_
  refine wp_seq_k (fun K2 hK2 => ?_)
  refine wp_seq_k (fun K3 hK3 => ?_)
  refine wp_plain [true, true, true] rfl rfl ?_
  refine s_fieldAddr hE rfl fo26_0 rfl ?_; clear hE a; intro a hE
  refine s_load1 hE rfl (hM.get 0 rfl) rfl one5 (by intro X h; cases h) rfl ?_; clear hE a; intro a hE
  refine s_bin hE rfl rfl (bin_rem_nat (s := 5) (by decide)) rfl ?_; clear hE a; intro a hE
  refine q_nil ?_
  replace hE : Env a 33 [(1, _), (2, _), (5, _)] := hE.sel [1, 2, 5] rfl
  refine hK3 _ _ ?_
  refine wp_block ?_
  refine wp_seq_k (fun K4 hK4 => ?_)
  refine wp_plain [true, true] rfl rfl ?_
  refine s_bin hE rfl rfl bin_eql rfl ?_; clear hE a; intro a hE
  refine s_assign hE rfl rfl ?_; clear hE a; intro a hE
  refine q_nil ?_
  replace hE : Env a 33 [(1, _), (2, _), (5, _), (6, _)] := hE.sel [1, 2, 5, 6] rfl
  refine hK4 _ _ ?_
  refine hE.split 6 rfl (fun hb6 hE' => ?_) (fun hb6 hE' => ?_)
  · replace hE := hE'; clear hE'
    replace hb6 := of_decide_eq_true hb6
    replace hb6 : kd.toNat % 5 = 0 := by omega
    refine wp_cond_true (hE.eval rfl) ?_
    refine wp_seq_k (fun K5 hK5 => ?_)
    refine wp_plain [true, true, true, true, false, true] rfl rfl ?_
    refine s_fieldAddr hE rfl fo26_1 rfl ?_; clear hE a; intro a hE
    refine s_load1 hE rfl (hM.get 0 rfl) rfl one3 (by intro X h; cases h) rfl ?_; clear hE a; intro a hE
    refine s_fieldAddr hE rfl fo26_2 rfl ?_; clear hE a; intro a hE
    refine s_loadN hE rfl (hM.get 0 rfl) row23 rfl (by intro X h; cases h) rfl ?_; clear hE a; intro a hE
    refine s_call hE rfl Try.call9 (leaftext_c z s _ hs) rfl ?_
    rintro e w2 ⟨vt, rfl, hN⟩
    refine ⟨_, rfl, trivial, ?_⟩; clear hE a; intro a hE
    replace hM : Mem _ _ w2 [_, _, _] := hM.call0 hN ⟨rfl, trivial⟩; clear hN
    have e : txt kd.toNat z s bs = numT 76 z s := by simp [txt, *]
    refine s_assign hE rfl rfl ?_; clear hE a; intro a hE
    refine q_nil ?_
    replace hE : Env a 33 [(1, _), (2, _), (5, _), (6, _)] := hE.sel [1, 2, 5, 6] rfl
    refine hK5 _ _ ?_
    refine wp_ret ?_
    refine q_block_r ?_
    refine q_then_r ?_
    refine f_ret1 hE rfl rfl ?_
    rw [e]; exact ⟨_, rfl, hM.pick [0] rfl⟩
  · replace hE := hE'; clear hE'
    replace hb6 := of_decide_eq_false hb6
    replace hb6 : ¬ kd.toNat % 5 = 0 := by omega
    refine wp_cond_false (hE.eval rfl) ?_
    refine wp_seq_k (fun K5 hK5 => ?_)
    refine wp_plain [true, true] rfl rfl ?_
    refine s_bin hE rfl rfl bin_eql rfl ?_; clear hE a; intro a hE
    refine s_assign hE rfl rfl ?_; clear hE a; intro a hE
    refine q_nil ?_
    replace hE : Env a 33 [(1, _), (2, _), (5, _), (6, _), (13, _)] := hE.sel [1, 2, 5, 6, 13] rfl
    refine hK5 _ _ ?_
    refine hE.split 13 rfl (fun hb13 hE' => ?_) (fun hb13 hE' => ?_)
    · replace hE := hE'; clear hE'
      replace hb13 := of_decide_eq_true hb13
      replace hb13 : kd.toNat % 5 = 1 := by omega
      refine wp_cond_true (hE.eval rfl) ?_
      refine wp_seq_k (fun K6 hK6 => ?_)
      refine wp_plain [true, true, true, true, false, true] rfl rfl ?_
      refine s_fieldAddr hE rfl fo26_1 rfl ?_; clear hE a; intro a hE
      refine s_load1 hE rfl (hM.get 0 rfl) rfl one3 (by intro X h; cases h) rfl ?_; clear hE a; intro a hE
      refine s_fieldAddr hE rfl fo26_2 rfl ?_; clear hE a; intro a hE
      refine s_loadN hE rfl (hM.get 0 rfl) row23 rfl (by intro X h; cases h) rfl ?_; clear hE a; intro a hE
      refine s_call hE rfl Try.call12 (nodetext_c z s _ hs) rfl ?_
      rintro e w2 ⟨vt, rfl, hN⟩
      refine ⟨_, rfl, trivial, ?_⟩; clear hE a; intro a hE
      replace hM : Mem _ _ w2 [_, _, _] := hM.call0 hN ⟨rfl, trivial⟩; clear hN
      have e : txt kd.toNat z s bs = numT 78 z s := by simp [txt, *]
      refine s_assign hE rfl rfl ?_; clear hE a; intro a hE
      refine q_nil ?_
      replace hE : Env a 33 [(1, _), (2, _), (5, _), (6, _), (13, _)] := hE.sel [1, 2, 5, 6, 13] rfl
      refine hK6 _ _ ?_
      refine wp_ret ?_
      refine q_block_r ?_
      refine q_then_r ?_
      refine f_ret1 hE rfl rfl ?_
      rw [e]; exact ⟨_, rfl, hM.pick [0] rfl⟩
    · replace hE := hE'; clear hE'
      replace hb13 := of_decide_eq_false hb13
      replace hb13 : ¬ kd.toNat % 5 = 1 := by omega
      refine wp_cond_false (hE.eval rfl) ?_
      refine wp_seq_k (fun K6 hK6 => ?_)
      refine wp_plain [true, true] rfl rfl ?_
      refine s_bin hE rfl rfl bin_eql rfl ?_; clear hE a; intro a hE
      refine s_assign hE rfl rfl ?_; clear hE a; intro a hE
      refine q_nil ?_
      replace hE : Env a 33 [(1, _), (2, _), (5, _), (6, _), (13, _), (20, _)] := hE.sel [1, 2, 5, 6, 13, 20] rfl
      refine hK6 _ _ ?_
      refine hE.split 20 rfl (fun hb20 hE' => ?_) (fun hb20 hE' => ?_)
      · replace hE := hE'; clear hE'
        replace hb20 := of_decide_eq_true hb20
        replace hb20 : kd.toNat % 5 = 2 := by omega
        refine wp_cond_true (hE.eval rfl) ?_
        refine wp_seq_k (fun K7 hK7 => ?_)
        refine wp_plain [true, true, false, true] rfl rfl ?_
        refine s_fieldAddr hE rfl fo26_3 rfl ?_; clear hE a; intro a hE
        refine s_load1 hE rfl (hM.get 0 rfl) rfl one24 (by intro X h; cases h) rfl ?_; clear hE a; intro a hE
        refine s_call hE rfl Try.call11 (roottext_c v bs c _ (hM.get 1 rfl) (by omega)) rfl ?_
        rintro e w2 ⟨vt, rfl, hN⟩
        refine ⟨_, rfl, trivial, ?_⟩; clear hE a; intro a hE
        replace hM : Mem _ _ w2 [_, _, _] := hM.call0 hN ⟨rfl, trivial⟩; clear hN
        have e : txt kd.toNat z s bs = plT 82 bs := by simp [txt, *]
        refine s_assign hE rfl rfl ?_; clear hE a; intro a hE
        refine q_nil ?_
        replace hE : Env a 33 [(1, _), (2, _), (5, _), (6, _), (13, _), (20, _)] := hE.sel [1, 2, 5, 6, 13, 20] rfl
        refine hK7 _ _ ?_
        refine wp_ret ?_
        refine q_block_r ?_
        refine q_then_r ?_
        refine f_ret1 hE rfl rfl ?_
        rw [e]; exact ⟨_, rfl, hM.pick [0] rfl⟩
      · replace hE := hE'; clear hE'
        replace hb20 := of_decide_eq_false hb20
        replace hb20 : ¬ kd.toNat % 5 = 2 := by omega
        refine wp_cond_false (hE.eval rfl) ?_
        refine wp_seq_k (fun K7 hK7 => ?_)
        refine wp_plain [true, true] rfl rfl ?_
        refine s_bin hE rfl rfl bin_eql rfl ?_; clear hE a; intro a hE
        refine s_assign hE rfl rfl ?_; clear hE a; intro a hE
        refine q_nil ?_
        replace hE : Env a 33 [(1, _), (2, _), (5, _), (6, _), (13, _), (20, _), (25, _)] := hE.sel [1, 2, 5, 6, 13, 20, 25] rfl
        refine hK7 _ _ ?_
        refine hE.split 25 rfl (fun hb25 hE' => ?_) (fun hb25 hE' => ?_)
        · replace hE := hE'; clear hE'
          replace hb25 := of_decide_eq_true hb25
          replace hb25 : kd.toNat % 5 = 3 := by omega
          refine wp_cond_true (hE.eval rfl) ?_
          refine wp_seq_k (fun K8 hK8 => ?_)
          refine wp_plain [true, true, false, true] rfl rfl ?_
          refine s_fieldAddr hE rfl fo26_3 rfl ?_; clear hE a; intro a hE
          refine s_load1 hE rfl (hM.get 0 rfl) rfl one24 (by intro X h; cases h) rfl ?_; clear hE a; intro a hE
          refine s_call hE rfl Try.call13 (headtext_c v bs c _ (hM.get 1 rfl) (by omega)) rfl ?_
          rintro e w2 ⟨vt, rfl, hN⟩
          refine ⟨_, rfl, trivial, ?_⟩; clear hE a; intro a hE
          replace hM : Mem _ _ w2 [_, _, _] := hM.call0 hN ⟨rfl, trivial⟩; clear hN
          have e : txt kd.toNat z s bs = plT 72 bs := by simp [txt, *]
          refine s_assign hE rfl rfl ?_; clear hE a; intro a hE
          refine q_nil ?_
          replace hE : Env a 33 [(1, _), (2, _), (5, _), (6, _), (13, _), (20, _), (25, _)] := hE.sel [1, 2, 5, 6, 13, 20, 25] rfl
          refine hK8 _ _ ?_
          refine wp_ret ?_
          refine q_block_r ?_
          refine q_then_r ?_
          refine f_ret1 hE rfl rfl ?_
          rw [e]; exact ⟨_, rfl, hM.pick [0] rfl⟩
        · replace hE := hE'; clear hE'
          replace hb25 := of_decide_eq_false hb25
          replace hb25 : ¬ kd.toNat % 5 = 3 := by omega
          refine wp_cond_false (hE.eval rfl) ?_
          refine wp_skip ?_
          refine q_block_n ?_
          refine hK2 _ _ ?_
          refine wp_seq_k (fun K8 hK8 => ?_)
          refine wp_plain [true, true, false, true] rfl rfl ?_
          refine s_fieldAddr hE rfl fo26_3 rfl ?_; clear hE a; intro a hE
          refine s_load1 hE rfl (hM.get 0 rfl) rfl one24 (by intro X h; cases h) rfl ?_; clear hE a; intro a hE
          refine s_call hE rfl Try.call14 (bodytext_c v bs c _ (hM.get 1 rfl) (by omega)) rfl ?_
          rintro e w2 ⟨vt, rfl, hN⟩
          refine ⟨_, rfl, trivial, ?_⟩; clear hE a; intro a hE
          replace hM : Mem _ _ w2 [_, _, _] := hM.call0 hN ⟨rfl, trivial⟩; clear hN
          have e : txt kd.toNat z s bs = plT 66 bs := by simp [txt, *]
          refine s_assign hE rfl rfl ?_; clear hE a; intro a hE
          refine q_nil ?_
          replace hE : Env a 33 [(1, _), (2, _), (5, _), (6, _), (13, _), (20, _), (25, _)] := hE.sel [1, 2, 5, 6, 13, 20, 25] rfl
          refine hK8 _ _ ?_
          refine wp_ret ?_
          refine f_ret1 hE rfl rfl ?_
          rw [e]; exact ⟨_, rfl, hM.pick [0] rfl⟩
theorem str_inj {a b : List UInt8} : str a = str b ↔ a = b := ⟨fun h => by have := congrArg (fun s : ByteArray => s.data.toList) h; simpa using this, fun h => by rw [h]⟩
set_option maxHeartbeats 1000000 in
theorem tagsApart_c (ka kb : UInt8) (za zb : Int) (sa sb : List UInt8) (va vb : Value) (ba bb : List UInt8) (ca cb : Nat) (w : World) (hsa : sa.length = 64) (hsb : sb.length = 64) (hza : InI64 za) (hzb : InI64 zb) (hra : (rd va 1 ba.length ca (bv ba)).holds w) (hrb : (rd vb 1 bb.length cb (bv bb)).holds w) : Calls Try.prog 3 #[.agg ([[bV ka], [.int .i64 za], bv sa, [va]]).flatten.toArray, .agg ([[bV kb], [.int .i64 zb], bv sb, [vb]]).flatten.toArray] w fun e w' => e = .returned (.bool true) ∧ Mem w [] w' [] := by
  have hM := Mem.startR2 hra hrb rfl rfl
  refine f_enter 65 Try.func3 rfl rfl rfl ?_
  intro a hE
  replace hE : Env a 65 [(0, _), (1, _)] := hE
  refine wp_seq_k (fun K1 hK1 => ?_)
  refine wp_plain [false, false, true] rfl rfl ?_
  refine s_box (ss := [[bV ka], [.int .i64 za], bv sa, [va]]) [1, 1, 64, 1] hE hM rfl rfl (by simp [hsa]) rfl ?_; clear hE a; intro a b2 w1 hE hM'
  clear hM; have hM := hM'; clear hM'
  refine s_box (ss := [[bV kb], [.int .i64 zb], bv sb, [vb]]) [1, 1, 64, 1] hE hM rfl rfl (by simp [hsb]) rfl ?_; clear hE a; intro a b3 w2 hE hM'
  clear hM; have hM := hM'; clear hM'
  refine s_assign hE rfl rfl ?_; clear hE a; intro a hE
  refine q_nil ?_
  replace hE : Env a 65 [(2, _), (3, _), (4, _)] := hE.sel [2, 3, 4] rfl
  refine hK1 _ _ ?_
  refine wp_seq_k (fun K2 hK2 => ?_)
  refine wp_seq_k (fun K3 hK3 => ?_)
  refine wp_plain [true, true, true, true, true, true, true, true, true, true] rfl rfl ?_
  refine s_fieldAddr hE rfl fo26_3 rfl ?_; clear hE a; intro a hE
  refine s_load1 hE rfl (hM.get 1 rfl) rfl one24 (by intro X h; cases h) rfl ?_; clear hE a; intro a hE
  refine s_len hE rfl Try.underlying24 (rd_slice (hM.get 2 rfl)) rfl ?_; clear hE a; intro a hE
  refine s_bin hE rfl rfl bin_gtr rfl ?_; clear hE a; intro a hE
  refine s_move hE rfl rfl ?_; clear hE a; intro a hE
  refine hE.split 10 rfl (fun hb10 hE' => ?_) (fun hb10 hE' => ?_)
  · replace hE := hE'; clear hE'
    replace hb10 := of_decide_eq_true hb10
    refine g_no (b := true) hE rfl rfl rfl ?_; clear hE a; intro a hE
    refine g_no (b := true) hE rfl rfl rfl ?_; clear hE a; intro a hE
    refine g_no (b := true) hE rfl rfl rfl ?_; clear hE a; intro a hE
    refine g_no (b := true) hE rfl rfl rfl ?_; clear hE a; intro a hE
    refine s_pickt hE rfl rfl rfl ?_; clear hE a; intro a hE
    refine q_nil ?_
    replace hE : Env a 65 [(2, _), (3, _), (4, _), (15, _)] := hE.sel [2, 3, 4, 15] rfl
    refine hK3 _ _ ?_
    refine wp_cond_true (hE.eval rfl) ?_
    refine wp_seq_k (fun K4 hK4 => ?_)
    refine wp_plain [false, true] rfl rfl ?_
    refine s_call hE rfl Try.call5 (awake17_c _) rfl ?_
    rintro e w3 ⟨rfl, hN⟩
    refine ⟨_, rfl, trivial, ?_⟩; clear hE a; intro a hE
    replace hM : Mem _ _ w3 [_, _, _, _] := hM.call0 hN trivial; clear hN
    refine s_assign hE rfl rfl ?_; clear hE a; intro a hE
    refine q_nil ?_
    replace hE : Env a 65 [(2, _), (3, _), (4, _), (15, _)] := hE.sel [2, 3, 4, 15] rfl
    refine hK4 _ _ ?_
    refine wp_ret ?_
    refine q_then_r ?_
    refine f_ret1 hE rfl rfl ?_
    exact ⟨by first | rfl | simp, hM.nil⟩
  · replace hE := hE'; clear hE'
    replace hb10 := of_decide_eq_false hb10
    refine g_yes hE rfl rfl ?_
    refine s_fieldAddr hE rfl fo26_3 rfl ?_; clear hE a; intro a hE
    refine g_yes hE rfl rfl ?_
    refine s_load1 hE rfl (hM.get 0 rfl) rfl one24 (by intro X h; cases h) rfl ?_; clear hE a; intro a hE
    refine g_yes hE rfl rfl ?_
    refine s_len hE rfl Try.underlying24 (rd_slice (hM.get 3 rfl)) rfl ?_; clear hE a; intro a hE
    refine g_yes hE rfl rfl ?_
    refine s_bin hE rfl rfl bin_gtr rfl ?_; clear hE a; intro a hE
    refine s_pickf hE rfl rfl rfl ?_; clear hE a; intro a hE
    refine q_nil ?_
    replace hE : Env a 65 [(2, _), (3, _), (4, _), (15, _)] := hE.sel [2, 3, 4, 15] rfl
    refine hK3 _ _ ?_
    refine hE.split 15 rfl (fun hb15 hE' => ?_) (fun hb15 hE' => ?_)
    · replace hE := hE'; clear hE'
      replace hb15 := of_decide_eq_true hb15
      refine wp_cond_true (hE.eval rfl) ?_
      refine wp_seq_k (fun K4 hK4 => ?_)
      refine wp_plain [false, true] rfl rfl ?_
      refine s_call hE rfl Try.call5 (awake17_c _) rfl ?_
      rintro e w3 ⟨rfl, hN⟩
      refine ⟨_, rfl, trivial, ?_⟩; clear hE a; intro a hE
      replace hM : Mem _ _ w3 [_, _, _, _] := hM.call0 hN trivial; clear hN
      refine s_assign hE rfl rfl ?_; clear hE a; intro a hE
      refine q_nil ?_
      replace hE : Env a 65 [(2, _), (3, _), (4, _), (15, _)] := hE.sel [2, 3, 4, 15] rfl
      refine hK4 _ _ ?_
      refine wp_ret ?_
      refine q_then_r ?_
      refine f_ret1 hE rfl rfl ?_
      exact ⟨by first | rfl | simp, hM.nil⟩
    · replace hE := hE'; clear hE'
      replace hb15 := of_decide_eq_false hb15
      refine wp_cond_false (hE.eval rfl) ?_
      refine wp_skip ?_
      refine hK2 _ _ ?_
      refine wp_seq_k (fun K4 hK4 => ?_)
      refine wp_plain [true, true, true, true, true, true, true, true] rfl rfl ?_
      refine s_fieldAddr hE rfl fo26_0 rfl ?_; clear hE a; intro a hE
      refine s_load1 hE rfl (hM.get 1 rfl) rfl one5 (by intro X h; cases h) rfl ?_; clear hE a; intro a hE
      refine s_bin hE rfl rfl (bin_rem_nat (s := 5) (by decide)) rfl ?_; clear hE a; intro a hE
      refine s_fieldAddr hE rfl fo26_0 rfl ?_; clear hE a; intro a hE
      refine s_load1 hE rfl (hM.get 0 rfl) rfl one5 (by intro X h; cases h) rfl ?_; clear hE a; intro a hE
      refine s_bin hE rfl rfl (bin_rem_nat (s := 5) (by decide)) rfl ?_; clear hE a; intro a hE
      refine s_bin hE rfl rfl bin_eql rfl ?_; clear hE a; intro a hE
      refine s_assign hE rfl rfl ?_; clear hE a; intro a hE
      refine q_nil ?_
      replace hE : Env a 65 [(2, _), (3, _), (4, _), (5, _), (15, _)] := hE.sel [2, 3, 4, 5, 15] rfl
      refine hK4 _ _ ?_
      refine wp_seq_k (fun K5 hK5 => ?_)
      refine wp_seq_k (fun K6 hK6 => ?_)
      refine wp_plain [true, true, true, true] rfl rfl ?_
      refine s_fieldAddr hE rfl fo26_0 rfl ?_; clear hE a; intro a hE
      refine s_load1 hE rfl (hM.get 1 rfl) rfl one5 (by intro X h; cases h) rfl ?_; clear hE a; intro a hE
      refine s_bin hE rfl rfl (bin_rem_nat (s := 5) (by decide)) rfl ?_; clear hE a; intro a hE
      refine s_bin hE rfl rfl bin_lss rfl ?_; clear hE a; intro a hE
      refine q_nil ?_
      replace hE : Env a 65 [(2, _), (3, _), (4, _), (5, _), (15, _), (27, _)] := hE.sel [2, 3, 4, 5, 15, 27] rfl
      refine hK6 _ _ ?_
      refine hE.split 27 rfl (fun hb27 hE' => ?_) (fun hb27 hE' => ?_)
      · replace hE := hE'; clear hE'
        replace hb27 := of_decide_eq_true hb27
        replace hb27 : ka.toNat % 5 < 2 := by omega
        refine wp_cond_true (hE.eval rfl) ?_
        refine wp_plain [true, true, true, true, true, true, true, true, true, true, true, true, true, true, true, true] rfl rfl ?_
        refine s_move hE rfl rfl ?_; clear hE a; intro a hE
        refine s_move hE rfl rfl ?_; clear hE a; intro a hE
        refine hE.split 29 rfl (fun hb29 hE' => ?_) (fun hb29 hE' => ?_)
        · replace hE := hE'; clear hE'
          replace hb29 := of_decide_eq_true hb29
          replace hb29 : ka.toNat % 5 = kb.toNat % 5 := by omega
          refine g_yes hE rfl rfl ?_
          refine s_fieldAddr hE rfl fo26_1 rfl ?_; clear hE a; intro a hE
          refine g_yes hE rfl rfl ?_
          refine s_load1 hE rfl (hM.get 1 rfl) rfl one3 (by intro X h; cases h) rfl ?_; clear hE a; intro a hE
          refine g_yes hE rfl rfl ?_
          refine s_fieldAddr hE rfl fo26_1 rfl ?_; clear hE a; intro a hE
          refine g_yes hE rfl rfl ?_
          refine s_load1 hE rfl (hM.get 0 rfl) rfl one3 (by intro X h; cases h) rfl ?_; clear hE a; intro a hE
          refine g_yes hE rfl rfl ?_
          refine s_bin hE rfl rfl bin_eql rfl ?_; clear hE a; intro a hE
          refine s_pickt hE rfl rfl rfl ?_; clear hE a; intro a hE
          refine s_move hE rfl rfl ?_; clear hE a; intro a hE
          refine hE.split 36 rfl (fun hb36 hE' => ?_) (fun hb36 hE' => ?_)
          · replace hE := hE'; clear hE'
            replace hb36 := of_decide_eq_true hb36
            refine g_yes hE rfl rfl ?_
            refine s_fieldAddr hE rfl fo26_2 rfl ?_; clear hE a; intro a hE
            refine g_yes hE rfl rfl ?_
            refine s_loadN hE rfl (hM.get 1 rfl) row23 rfl (by intro X h; cases h) rfl ?_; clear hE a; intro a hE
            refine g_yes hE rfl rfl ?_
            refine s_fieldAddr hE rfl fo26_2 rfl ?_; clear hE a; intro a hE
            refine g_yes hE rfl rfl ?_
            refine s_loadN hE rfl (hM.get 0 rfl) row23 rfl (by intro X h; cases h) rfl ?_; clear hE a; intro a hE
            refine g_yes hE rfl rfl ?_
            refine s_bin hE rfl rfl (eqa23 (by assumption) (by assumption)).1 rfl ?_; clear hE a; intro a hE
            refine s_pickt hE rfl rfl rfl ?_; clear hE a; intro a hE
            refine s_assign hE rfl rfl ?_; clear hE a; intro a hE
            refine q_nil ?_
            replace hE : Env a 65 [(2, _), (3, _), (4, _), (5, _), (15, _), (27, _)] := hE.sel [2, 3, 4, 5, 15, 27] rfl
            refine hK5 _ _ ?_
            refine wp_seq_k (fun K7 hK7 => ?_)
            refine wp_drawnM hM (by kernel_rfl) (fun _ => False) [(0, true), (3, true), (7, true), (1, false), (2, true), (4, false), (5, true), (6, true), (8, true), (9, true), (10, false), (11, true), (12, true)] [(1, [(2, 1), (4, 1), (5, 4), (6, 2), (8, 6), (9, 8), (10, 9), (11, 9), (12, 1)]), (4, [(5, 4), (6, 5), (8, 6), (9, 4), (10, 9), (11, 9), (12, 4)]), (10, [(11, 10), (12, 10)])] (by kernel_rfl) rfl ?_
            intro w3 hM' hww3; clear hM; have hM := hM'; clear hM'
            refine s_loadN hE rfl (hM.get 1 rfl) row26 rfl (by intro X h; cases h; simp) rfl ?_; clear hE a; intro a hE
            replace hE := hE.cast 53 rfl (show _ = Value.agg (([[bV ka], [.int .i64 za], bv sa, [va]]).flatten).toArray from by simp)
            refine s_loadN hE rfl (hM.get 0 rfl) row26 rfl (by intro X h; cases h; simp) rfl ?_; clear hE a; intro a hE
            replace hE := hE.cast 56 rfl (show _ = Value.agg (([[bV kb], [.int .i64 zb], bv sb, [vb]]).flatten).toArray from by simp)
            have hiff := txt_iff (k := ka.toNat) (j := kb.toNat) (b := ba) (c := bb) hza hzb (hsa.trans hsb.symm)
            first | rw [if_pos hb27] at hiff | rw [if_neg hb27] at hiff
            refine s_move hE rfl rfl ?_; clear hE a; intro a hE
            refine s_call hE rfl Try.call6 (text_c ka za sa va ba ca _ hsa (hM.get 2 rfl) (by omega)) rfl ?_
            rintro e w4 ⟨vta, rfl, hN⟩
            refine ⟨_, rfl, hN.sta0 _, ?_⟩; clear hE a; intro a hE
            replace hM : Mem _ _ w4 [_, _, _, _, _] := hM.call0 hN ⟨rfl, trivial⟩; clear hN
            obtain ⟨cs55, hs55⟩ := own_rd (hM.get 0 rfl)
            refine s_toStr hE rfl Try.underlying24 Try.underlying5 Try.underlying9 hs55 (by intro X h; cases h; simp) rfl ?_; clear hE a; intro a hE
            refine s_call hE rfl Try.call6 (text_c kb zb sb vb bb cb _ hsb (hM.get 4 rfl) (by omega)) rfl ?_
            rintro e w5 ⟨vtb, rfl, hN⟩
            refine ⟨_, rfl, hN.sta0 _, ?_⟩; clear hE a; intro a hE
            replace hM : Mem _ _ w5 [_, _, _, _, _, _] := hM.call0 hN ⟨rfl, trivial⟩; clear hN
            obtain ⟨cs58, hs58⟩ := own_rd (hM.get 0 rfl)
            refine s_toStr hE rfl Try.underlying24 Try.underlying5 Try.underlying9 hs58 (by intro X h; cases h; simp) rfl ?_; clear hE a; intro a hE
            refine s_bin hE rfl rfl bins_str.1 rfl ?_; clear hE a; intro a hE
            refine s_bin hE rfl rfl (bins_bool Try.underlying4).1 rfl ?_; clear hE a; intro a hE
            refine s_move hE rfl rfl ?_; clear hE a; intro a hE
            replace hE := hE.cast 62 rfl (show _ = Value.bool true from (congrArg Value.bool (by simp only [beq_iff_eq, str_data]; first | exact decide_eq_decide.2 (by rw [hiff]; simp [*]) | exact decide_eq_false (by rw [hiff]; simp [*]) | (rw [decide_eq_false (by rw [hiff]; simp [*])]))))
            refine g_yes hE rfl rfl ?_
            refine s_call hE rfl Try.call5 (awake17_c _) rfl ?_
            rintro e w6 ⟨rfl, hN⟩
            refine ⟨_, rfl, hN.sta0 _, ?_⟩; clear hE a; intro a hE
            replace hM : Mem _ _ w6 [_, _, _, _, _, _] := hM.call0 hN trivial; clear hN
            refine s_pickt hE rfl rfl rfl ?_; clear hE a; intro a hE
            refine s_assign hE rfl rfl ?_; clear hE a; intro a hE
            refine q_nil ?_
            replace hE : Env a 65 [(2, _), (3, _), (4, _), (5, _), (15, _), (27, _)] := hE.sel [2, 3, 4, 5, 15, 27] rfl
            refine hK7 _ _ ?_
            refine wp_ret ?_
            refine f_ret1 hE rfl rfl ?_
            exact ⟨by first | rfl | simp, hM.nil⟩
          · replace hE := hE'; clear hE'
            replace hb36 := of_decide_eq_false hb36
            refine g_no (b := false) hE rfl rfl rfl ?_; clear hE a; intro a hE
            refine g_no (b := false) hE rfl rfl rfl ?_; clear hE a; intro a hE
            refine g_no (b := false) hE rfl rfl rfl ?_; clear hE a; intro a hE
            refine g_no (b := false) hE rfl rfl rfl ?_; clear hE a; intro a hE
            refine g_no (b := false) hE rfl rfl rfl ?_; clear hE a; intro a hE
            refine s_pickf hE rfl rfl rfl ?_; clear hE a; intro a hE
            refine s_assign hE rfl rfl ?_; clear hE a; intro a hE
            refine q_nil ?_
            replace hE : Env a 65 [(2, _), (3, _), (4, _), (5, _), (15, _), (27, _)] := hE.sel [2, 3, 4, 5, 15, 27] rfl
            refine hK5 _ _ ?_
            refine wp_seq_k (fun K7 hK7 => ?_)
            refine wp_drawnM hM (by kernel_rfl) (fun _ => False) [(0, true), (3, true), (7, true), (1, false), (2, true), (4, false), (5, true), (6, true), (8, true), (9, true), (10, false), (11, true), (12, true)] [(1, [(2, 1), (4, 1), (5, 4), (6, 2), (8, 6), (9, 8), (10, 9), (11, 9), (12, 1)]), (4, [(5, 4), (6, 5), (8, 6), (9, 4), (10, 9), (11, 9), (12, 4)]), (10, [(11, 10), (12, 10)])] (by kernel_rfl) rfl ?_
            intro w3 hM' hww3; clear hM; have hM := hM'; clear hM'
            refine s_loadN hE rfl (hM.get 1 rfl) row26 rfl (by intro X h; cases h; simp) rfl ?_; clear hE a; intro a hE
            replace hE := hE.cast 53 rfl (show _ = Value.agg (([[bV ka], [.int .i64 za], bv sa, [va]]).flatten).toArray from by simp)
            refine s_loadN hE rfl (hM.get 0 rfl) row26 rfl (by intro X h; cases h; simp) rfl ?_; clear hE a; intro a hE
            replace hE := hE.cast 56 rfl (show _ = Value.agg (([[bV kb], [.int .i64 zb], bv sb, [vb]]).flatten).toArray from by simp)
            have hiff := txt_iff (k := ka.toNat) (j := kb.toNat) (b := ba) (c := bb) hza hzb (hsa.trans hsb.symm)
            first | rw [if_pos hb27] at hiff | rw [if_neg hb27] at hiff
            refine s_move hE rfl rfl ?_; clear hE a; intro a hE
            refine s_call hE rfl Try.call6 (text_c ka za sa va ba ca _ hsa (hM.get 2 rfl) (by omega)) rfl ?_
            rintro e w4 ⟨vta, rfl, hN⟩
            refine ⟨_, rfl, hN.sta0 _, ?_⟩; clear hE a; intro a hE
            replace hM : Mem _ _ w4 [_, _, _, _, _] := hM.call0 hN ⟨rfl, trivial⟩; clear hN
            obtain ⟨cs55, hs55⟩ := own_rd (hM.get 0 rfl)
            refine s_toStr hE rfl Try.underlying24 Try.underlying5 Try.underlying9 hs55 (by intro X h; cases h; simp) rfl ?_; clear hE a; intro a hE
            refine s_call hE rfl Try.call6 (text_c kb zb sb vb bb cb _ hsb (hM.get 4 rfl) (by omega)) rfl ?_
            rintro e w5 ⟨vtb, rfl, hN⟩
            refine ⟨_, rfl, hN.sta0 _, ?_⟩; clear hE a; intro a hE
            replace hM : Mem _ _ w5 [_, _, _, _, _, _] := hM.call0 hN ⟨rfl, trivial⟩; clear hN
            obtain ⟨cs58, hs58⟩ := own_rd (hM.get 0 rfl)
            refine s_toStr hE rfl Try.underlying24 Try.underlying5 Try.underlying9 hs58 (by intro X h; cases h; simp) rfl ?_; clear hE a; intro a hE
            refine s_bin hE rfl rfl bins_str.1 rfl ?_; clear hE a; intro a hE
            refine s_bin hE rfl rfl (bins_bool Try.underlying4).1 rfl ?_; clear hE a; intro a hE
            refine s_move hE rfl rfl ?_; clear hE a; intro a hE
            replace hE := hE.cast 62 rfl (show _ = Value.bool true from (congrArg Value.bool (by simp only [beq_iff_eq, str_data]; first | exact decide_eq_decide.2 (by rw [hiff]; simp [*]) | exact decide_eq_false (by rw [hiff]; simp [*]) | (rw [decide_eq_false (by rw [hiff]; simp [*])]))))
            refine g_yes hE rfl rfl ?_
            refine s_call hE rfl Try.call5 (awake17_c _) rfl ?_
            rintro e w6 ⟨rfl, hN⟩
            refine ⟨_, rfl, hN.sta0 _, ?_⟩; clear hE a; intro a hE
            replace hM : Mem _ _ w6 [_, _, _, _, _, _] := hM.call0 hN trivial; clear hN
            refine s_pickt hE rfl rfl rfl ?_; clear hE a; intro a hE
            refine s_assign hE rfl rfl ?_; clear hE a; intro a hE
            refine q_nil ?_
            replace hE : Env a 65 [(2, _), (3, _), (4, _), (5, _), (15, _), (27, _)] := hE.sel [2, 3, 4, 5, 15, 27] rfl
            refine hK7 _ _ ?_
            refine wp_ret ?_
            refine f_ret1 hE rfl rfl ?_
            exact ⟨by first | rfl | simp, hM.nil⟩
        · replace hE := hE'; clear hE'
          replace hb29 := of_decide_eq_false hb29
          replace hb29 : ¬ ka.toNat % 5 = kb.toNat % 5 := by omega
          refine g_no (b := false) hE rfl rfl rfl ?_; clear hE a; intro a hE
          refine g_no (b := false) hE rfl rfl rfl ?_; clear hE a; intro a hE
          refine g_no (b := false) hE rfl rfl rfl ?_; clear hE a; intro a hE
          refine g_no (b := false) hE rfl rfl rfl ?_; clear hE a; intro a hE
          refine g_no (b := false) hE rfl rfl rfl ?_; clear hE a; intro a hE
          refine s_pickf hE rfl rfl rfl ?_; clear hE a; intro a hE
          refine s_move hE rfl rfl ?_; clear hE a; intro a hE
          refine g_no (b := false) hE rfl rfl rfl ?_; clear hE a; intro a hE
          refine g_no (b := false) hE rfl rfl rfl ?_; clear hE a; intro a hE
          refine g_no (b := false) hE rfl rfl rfl ?_; clear hE a; intro a hE
          refine g_no (b := false) hE rfl rfl rfl ?_; clear hE a; intro a hE
          refine g_no (b := false) hE rfl rfl rfl ?_; clear hE a; intro a hE
          refine s_pickf hE rfl rfl rfl ?_; clear hE a; intro a hE
          refine s_assign hE rfl rfl ?_; clear hE a; intro a hE
          refine q_nil ?_
          replace hE : Env a 65 [(2, _), (3, _), (4, _), (5, _), (15, _), (27, _)] := hE.sel [2, 3, 4, 5, 15, 27] rfl
          refine hK5 _ _ ?_
          refine wp_seq_k (fun K7 hK7 => ?_)
          refine wp_drawnM hM (by kernel_rfl) (fun _ => False) [(0, true), (3, true), (7, true), (1, false), (2, true), (4, false), (5, true), (6, true), (8, true), (9, true), (10, false), (11, true), (12, true)] [(1, [(2, 1), (4, 1), (5, 4), (6, 2), (8, 6), (9, 8), (10, 9), (11, 9), (12, 1)]), (4, [(5, 4), (6, 5), (8, 6), (9, 4), (10, 9), (11, 9), (12, 4)]), (10, [(11, 10), (12, 10)])] (by kernel_rfl) rfl ?_
          intro w3 hM' hww3; clear hM; have hM := hM'; clear hM'
          refine s_loadN hE rfl (hM.get 1 rfl) row26 rfl (by intro X h; cases h; simp) rfl ?_; clear hE a; intro a hE
          replace hE := hE.cast 53 rfl (show _ = Value.agg (([[bV ka], [.int .i64 za], bv sa, [va]]).flatten).toArray from by simp)
          refine s_loadN hE rfl (hM.get 0 rfl) row26 rfl (by intro X h; cases h; simp) rfl ?_; clear hE a; intro a hE
          replace hE := hE.cast 56 rfl (show _ = Value.agg (([[bV kb], [.int .i64 zb], bv sb, [vb]]).flatten).toArray from by simp)
          have hiff := txt_iff (k := ka.toNat) (j := kb.toNat) (b := ba) (c := bb) hza hzb (hsa.trans hsb.symm)
          first | rw [if_pos hb27] at hiff | rw [if_neg hb27] at hiff
          refine s_move hE rfl rfl ?_; clear hE a; intro a hE
          refine s_call hE rfl Try.call6 (text_c ka za sa va ba ca _ hsa (hM.get 2 rfl) (by omega)) rfl ?_
          rintro e w4 ⟨vta, rfl, hN⟩
          refine ⟨_, rfl, hN.sta0 _, ?_⟩; clear hE a; intro a hE
          replace hM : Mem _ _ w4 [_, _, _, _, _] := hM.call0 hN ⟨rfl, trivial⟩; clear hN
          obtain ⟨cs55, hs55⟩ := own_rd (hM.get 0 rfl)
          refine s_toStr hE rfl Try.underlying24 Try.underlying5 Try.underlying9 hs55 (by intro X h; cases h; simp) rfl ?_; clear hE a; intro a hE
          refine s_call hE rfl Try.call6 (text_c kb zb sb vb bb cb _ hsb (hM.get 4 rfl) (by omega)) rfl ?_
          rintro e w5 ⟨vtb, rfl, hN⟩
          refine ⟨_, rfl, hN.sta0 _, ?_⟩; clear hE a; intro a hE
          replace hM : Mem _ _ w5 [_, _, _, _, _, _] := hM.call0 hN ⟨rfl, trivial⟩; clear hN
          obtain ⟨cs58, hs58⟩ := own_rd (hM.get 0 rfl)
          refine s_toStr hE rfl Try.underlying24 Try.underlying5 Try.underlying9 hs58 (by intro X h; cases h; simp) rfl ?_; clear hE a; intro a hE
          refine s_bin hE rfl rfl bins_str.1 rfl ?_; clear hE a; intro a hE
          refine s_bin hE rfl rfl (bins_bool Try.underlying4).1 rfl ?_; clear hE a; intro a hE
          refine s_move hE rfl rfl ?_; clear hE a; intro a hE
          replace hE := hE.cast 62 rfl (show _ = Value.bool true from (congrArg Value.bool (by simp only [beq_iff_eq, str_data]; first | exact decide_eq_decide.2 (by rw [hiff]; simp [*]) | exact decide_eq_false (by rw [hiff]; simp [*]) | (rw [decide_eq_false (by rw [hiff]; simp [*])]))))
          refine g_yes hE rfl rfl ?_
          refine s_call hE rfl Try.call5 (awake17_c _) rfl ?_
          rintro e w6 ⟨rfl, hN⟩
          refine ⟨_, rfl, hN.sta0 _, ?_⟩; clear hE a; intro a hE
          replace hM : Mem _ _ w6 [_, _, _, _, _, _] := hM.call0 hN trivial; clear hN
          refine s_pickt hE rfl rfl rfl ?_; clear hE a; intro a hE
          refine s_assign hE rfl rfl ?_; clear hE a; intro a hE
          refine q_nil ?_
          replace hE : Env a 65 [(2, _), (3, _), (4, _), (5, _), (15, _), (27, _)] := hE.sel [2, 3, 4, 5, 15, 27] rfl
          refine hK7 _ _ ?_
          refine wp_ret ?_
          refine f_ret1 hE rfl rfl ?_
          exact ⟨by first | rfl | simp, hM.nil⟩
      · replace hE := hE'; clear hE'
        replace hb27 := of_decide_eq_false hb27
        replace hb27 : ¬ ka.toNat % 5 < 2 := by omega
        refine wp_cond_false (hE.eval rfl) ?_
        refine wp_plain [true, true, true, true, true, true, true, true, true, true, true] rfl rfl ?_
        refine s_move hE rfl rfl ?_; clear hE a; intro a hE
        refine s_move hE rfl rfl ?_; clear hE a; intro a hE
        refine hE.split 44 rfl (fun hb44 hE' => ?_) (fun hb44 hE' => ?_)
        · replace hE := hE'; clear hE'
          replace hb44 := of_decide_eq_true hb44
          replace hb44 : ka.toNat % 5 = kb.toNat % 5 := by omega
          refine g_yes hE rfl rfl ?_
          refine s_fieldAddr hE rfl fo26_3 rfl ?_; clear hE a; intro a hE
          refine g_yes hE rfl rfl ?_
          refine s_load1 hE rfl (hM.get 1 rfl) rfl one24 (by intro X h; cases h) rfl ?_; clear hE a; intro a hE
          refine g_yes hE rfl rfl ?_
          refine s_toStr hE rfl Try.underlying24 Try.underlying5 Try.underlying9 (hM.get 2 rfl) (by intro X h; cases h) rfl ?_; clear hE a; intro a hE
          refine g_yes hE rfl rfl ?_
          refine s_fieldAddr hE rfl fo26_3 rfl ?_; clear hE a; intro a hE
          refine g_yes hE rfl rfl ?_
          refine s_load1 hE rfl (hM.get 0 rfl) rfl one24 (by intro X h; cases h) rfl ?_; clear hE a; intro a hE
          refine g_yes hE rfl rfl ?_
          refine s_toStr hE rfl Try.underlying24 Try.underlying5 Try.underlying9 (hM.get 3 rfl) (by intro X h; cases h) rfl ?_; clear hE a; intro a hE
          refine g_yes hE rfl rfl ?_
          refine s_bin hE rfl rfl bins_str.1 rfl ?_; clear hE a; intro a hE
          refine s_pickt hE rfl rfl rfl ?_; clear hE a; intro a hE
          refine s_assign hE rfl rfl ?_; clear hE a; intro a hE
          refine q_nil ?_
          replace hE : Env a 65 [(2, _), (3, _), (4, _), (5, _), (15, _), (27, _)] := hE.sel [2, 3, 4, 5, 15, 27] rfl
          refine hK5 _ _ ?_
          refine wp_seq_k (fun K7 hK7 => ?_)
          refine wp_drawnM hM (by kernel_rfl) (fun _ => False) [(0, true), (3, true), (7, true), (1, false), (2, true), (4, false), (5, true), (6, true), (8, true), (9, true), (10, false), (11, true), (12, true)] [(1, [(2, 1), (4, 1), (5, 4), (6, 2), (8, 6), (9, 8), (10, 9), (11, 9), (12, 1)]), (4, [(5, 4), (6, 5), (8, 6), (9, 4), (10, 9), (11, 9), (12, 4)]), (10, [(11, 10), (12, 10)])] (by kernel_rfl) rfl ?_
          intro w3 hM' hww3; clear hM; have hM := hM'; clear hM'
          refine s_loadN hE rfl (hM.get 1 rfl) row26 rfl (by intro X h; cases h; simp) rfl ?_; clear hE a; intro a hE
          replace hE := hE.cast 53 rfl (show _ = Value.agg (([[bV ka], [.int .i64 za], bv sa, [va]]).flatten).toArray from by simp)
          refine s_loadN hE rfl (hM.get 0 rfl) row26 rfl (by intro X h; cases h; simp) rfl ?_; clear hE a; intro a hE
          replace hE := hE.cast 56 rfl (show _ = Value.agg (([[bV kb], [.int .i64 zb], bv sb, [vb]]).flatten).toArray from by simp)
          have hiff := txt_iff (k := ka.toNat) (j := kb.toNat) (b := ba) (c := bb) hza hzb (hsa.trans hsb.symm)
          first | rw [if_pos hb27] at hiff | rw [if_neg hb27] at hiff
          refine s_move hE rfl rfl ?_; clear hE a; intro a hE
          refine s_call hE rfl Try.call6 (text_c ka za sa va ba ca _ hsa (hM.get 2 rfl) (by omega)) rfl ?_
          rintro e w4 ⟨vta, rfl, hN⟩
          refine ⟨_, rfl, hN.sta0 _, ?_⟩; clear hE a; intro a hE
          replace hM : Mem _ _ w4 [_, _, _, _, _] := hM.call0 hN ⟨rfl, trivial⟩; clear hN
          obtain ⟨cs55, hs55⟩ := own_rd (hM.get 0 rfl)
          refine s_toStr hE rfl Try.underlying24 Try.underlying5 Try.underlying9 hs55 (by intro X h; cases h; simp) rfl ?_; clear hE a; intro a hE
          refine s_call hE rfl Try.call6 (text_c kb zb sb vb bb cb _ hsb (hM.get 4 rfl) (by omega)) rfl ?_
          rintro e w5 ⟨vtb, rfl, hN⟩
          refine ⟨_, rfl, hN.sta0 _, ?_⟩; clear hE a; intro a hE
          replace hM : Mem _ _ w5 [_, _, _, _, _, _] := hM.call0 hN ⟨rfl, trivial⟩; clear hN
          obtain ⟨cs58, hs58⟩ := own_rd (hM.get 0 rfl)
          refine s_toStr hE rfl Try.underlying24 Try.underlying5 Try.underlying9 hs58 (by intro X h; cases h; simp) rfl ?_; clear hE a; intro a hE
          refine s_bin hE rfl rfl bins_str.1 rfl ?_; clear hE a; intro a hE
          refine s_bin hE rfl rfl (bins_bool Try.underlying4).1 rfl ?_; clear hE a; intro a hE
          refine s_move hE rfl rfl ?_; clear hE a; intro a hE
          replace hE := hE.cast 62 rfl (show _ = Value.bool true from (congrArg Value.bool (by simp only [beq_iff_eq, str_data]; first | exact decide_eq_decide.2 (by rw [hiff]; simp [*]) | exact decide_eq_false (by rw [hiff]; simp [*]) | (rw [decide_eq_false (by rw [hiff]; simp [*])]))))
          refine g_yes hE rfl rfl ?_
          refine s_call hE rfl Try.call5 (awake17_c _) rfl ?_
          rintro e w6 ⟨rfl, hN⟩
          refine ⟨_, rfl, hN.sta0 _, ?_⟩; clear hE a; intro a hE
          replace hM : Mem _ _ w6 [_, _, _, _, _, _] := hM.call0 hN trivial; clear hN
          refine s_pickt hE rfl rfl rfl ?_; clear hE a; intro a hE
          refine s_assign hE rfl rfl ?_; clear hE a; intro a hE
          refine q_nil ?_
          replace hE : Env a 65 [(2, _), (3, _), (4, _), (5, _), (15, _), (27, _)] := hE.sel [2, 3, 4, 5, 15, 27] rfl
          refine hK7 _ _ ?_
          refine wp_ret ?_
          refine f_ret1 hE rfl rfl ?_
          exact ⟨by first | rfl | simp, hM.nil⟩
        · replace hE := hE'; clear hE'
          replace hb44 := of_decide_eq_false hb44
          replace hb44 : ¬ ka.toNat % 5 = kb.toNat % 5 := by omega
          refine g_no (b := false) hE rfl rfl rfl ?_; clear hE a; intro a hE
          refine g_no (b := false) hE rfl rfl rfl ?_; clear hE a; intro a hE
          refine g_no (b := false) hE rfl rfl rfl ?_; clear hE a; intro a hE
          refine g_no (b := false) hE rfl rfl rfl ?_; clear hE a; intro a hE
          refine g_no (b := false) hE rfl rfl rfl ?_; clear hE a; intro a hE
          refine g_no (b := false) hE rfl rfl rfl ?_; clear hE a; intro a hE
          refine g_no (b := false) hE rfl rfl rfl ?_; clear hE a; intro a hE
          refine s_pickf hE rfl rfl rfl ?_; clear hE a; intro a hE
          refine s_assign hE rfl rfl ?_; clear hE a; intro a hE
          refine q_nil ?_
          replace hE : Env a 65 [(2, _), (3, _), (4, _), (5, _), (15, _), (27, _)] := hE.sel [2, 3, 4, 5, 15, 27] rfl
          refine hK5 _ _ ?_
          refine wp_seq_k (fun K7 hK7 => ?_)
          refine wp_drawnM hM (by kernel_rfl) (fun _ => False) [(0, true), (3, true), (7, true), (1, false), (2, true), (4, false), (5, true), (6, true), (8, true), (9, true), (10, false), (11, true), (12, true)] [(1, [(2, 1), (4, 1), (5, 4), (6, 2), (8, 6), (9, 8), (10, 9), (11, 9), (12, 1)]), (4, [(5, 4), (6, 5), (8, 6), (9, 4), (10, 9), (11, 9), (12, 4)]), (10, [(11, 10), (12, 10)])] (by kernel_rfl) rfl ?_
          intro w3 hM' hww3; clear hM; have hM := hM'; clear hM'
          refine s_loadN hE rfl (hM.get 1 rfl) row26 rfl (by intro X h; cases h; simp) rfl ?_; clear hE a; intro a hE
          replace hE := hE.cast 53 rfl (show _ = Value.agg (([[bV ka], [.int .i64 za], bv sa, [va]]).flatten).toArray from by simp)
          refine s_loadN hE rfl (hM.get 0 rfl) row26 rfl (by intro X h; cases h; simp) rfl ?_; clear hE a; intro a hE
          replace hE := hE.cast 56 rfl (show _ = Value.agg (([[bV kb], [.int .i64 zb], bv sb, [vb]]).flatten).toArray from by simp)
          have hiff := txt_iff (k := ka.toNat) (j := kb.toNat) (b := ba) (c := bb) hza hzb (hsa.trans hsb.symm)
          first | rw [if_pos hb27] at hiff | rw [if_neg hb27] at hiff
          refine s_move hE rfl rfl ?_; clear hE a; intro a hE
          refine s_call hE rfl Try.call6 (text_c ka za sa va ba ca _ hsa (hM.get 2 rfl) (by omega)) rfl ?_
          rintro e w4 ⟨vta, rfl, hN⟩
          refine ⟨_, rfl, hN.sta0 _, ?_⟩; clear hE a; intro a hE
          replace hM : Mem _ _ w4 [_, _, _, _, _] := hM.call0 hN ⟨rfl, trivial⟩; clear hN
          obtain ⟨cs55, hs55⟩ := own_rd (hM.get 0 rfl)
          refine s_toStr hE rfl Try.underlying24 Try.underlying5 Try.underlying9 hs55 (by intro X h; cases h; simp) rfl ?_; clear hE a; intro a hE
          refine s_call hE rfl Try.call6 (text_c kb zb sb vb bb cb _ hsb (hM.get 4 rfl) (by omega)) rfl ?_
          rintro e w5 ⟨vtb, rfl, hN⟩
          refine ⟨_, rfl, hN.sta0 _, ?_⟩; clear hE a; intro a hE
          replace hM : Mem _ _ w5 [_, _, _, _, _, _] := hM.call0 hN ⟨rfl, trivial⟩; clear hN
          obtain ⟨cs58, hs58⟩ := own_rd (hM.get 0 rfl)
          refine s_toStr hE rfl Try.underlying24 Try.underlying5 Try.underlying9 hs58 (by intro X h; cases h; simp) rfl ?_; clear hE a; intro a hE
          refine s_bin hE rfl rfl bins_str.1 rfl ?_; clear hE a; intro a hE
          refine s_bin hE rfl rfl (bins_bool Try.underlying4).1 rfl ?_; clear hE a; intro a hE
          refine s_move hE rfl rfl ?_; clear hE a; intro a hE
          replace hE := hE.cast 62 rfl (show _ = Value.bool true from (congrArg Value.bool (by simp only [beq_iff_eq, str_data]; first | exact decide_eq_decide.2 (by rw [hiff]; simp [*]) | exact decide_eq_false (by rw [hiff]; simp [*]) | (rw [decide_eq_false (by rw [hiff]; simp [*])]))))
          refine g_yes hE rfl rfl ?_
          refine s_call hE rfl Try.call5 (awake17_c _) rfl ?_
          rintro e w6 ⟨rfl, hN⟩
          refine ⟨_, rfl, hN.sta0 _, ?_⟩; clear hE a; intro a hE
          replace hM : Mem _ _ w6 [_, _, _, _, _, _] := hM.call0 hN trivial; clear hN
          refine s_pickt hE rfl rfl rfl ?_; clear hE a; intro a hE
          refine s_assign hE rfl rfl ?_; clear hE a; intro a hE
          refine q_nil ?_
          replace hE : Env a 65 [(2, _), (3, _), (4, _), (5, _), (15, _), (27, _)] := hE.sel [2, 3, 4, 5, 15, 27] rfl
          refine hK7 _ _ ?_
          refine wp_ret ?_
          refine f_ret1 hE rfl rfl ?_
          exact ⟨by first | rfl | simp, hM.nil⟩
set_option maxRecDepth 100000 in
theorem tagsApart_lifted (os : Os) (started : os.Started) (H : Type) (enc : TypeId × Value → H) :
    ReturnsInHanded {} Try.checked os 3 .any (Rows.tagsApartSpec.pre6 enc Try.prog Try.f3 Rows.tagsApartRow.domain false) (Rows.tagsApartSpec.post enc Try.prog Try.f3 false true false false) := by
  refine law_lifted (C := Try.checked) (fn := Try.f3) (by kernel_rfl) started (by kernel_rfl) Try.func3 rfl (fun ds hl => ?_) rfl Try.underlying4 (by kernel_rfl) (of_decide_eq_true (by kernel_rfl)) (ChangeSpec.witness6 (enc := enc) (C := Try.checked) false ⟨#[], #[.agg ([[bV 0], [.int .i64 0], bv (List.replicate 64 0), [.slice none 0 0]] : List (List Value)).flatten.toArray, .agg ([[bV 0], [.int .i64 0], bv (List.replicate 64 0), [.slice none 0 0]] : List (List Value)).flatten.toArray], []⟩ 8 (by kernel_rfl) (by kernel_rfl) (by kernel_rfl) (by kernel_rfl)) ?_
  · rw [Try.params3] at hl
    match ds, hl with
    | [_, _], _ => rfl
  · intro W base args ds ps hval hA hw
    rw [Try.params3] at hA hval hw
    obtain ⟨v0, vs0, d0, ds0, p0, q0, hargs, rfl, rfl, h0, r0⟩ := trodAll_cons hA
    obtain ⟨v1, vs1, d1, ds1, p1, q1, rfl, rfl, rfl, h1, r1⟩ := trodAll_cons r0
    obtain ⟨rfl, rfl, rfl⟩ := trodAll_nil r1
    obtain rfl : args = #[v0, v1] := by cases args; simp_all
    obtain ⟨cs0, rfl, hcs0⟩ := okWide_struct Try.underlying26 (hval 0 26 v0 rfl rfl)
    obtain ⟨hl0, hp0⟩ := trod_of (dec_structL (t := 26) (s := 67) [(5, 0, 1, _), (3, 1, 1, _), (23, 2, 64, _), (24, 66, 1, _)] Try.underlying26 (by kernel_rfl) (by kernel_rfl) (by
      intro p hp; simp only [List.mem_cons, List.not_mem_nil, or_false] at hp
      rcases hp with rfl | rfl | rfl | rfl
      · exact dec_int Try.underlying5
      · exact dec_int Try.underlying3
      · exact dec_arr8 Try.underlying23 Try.underlying5 (by kernel_rfl) (by kernel_rfl)
      · exact dec_bytes Try.underlying24 Try.underlying5 (by kernel_rfl) (by kernel_rfl))) h0 (fun m hm => hw m (by simp only [DataW.weightsEach, List.mem_append]; exact .inl hm))
    obtain ⟨zka, hq0_0, hq0_0a, hq0_0b⟩ := hp0 _ (.head _)
    obtain ⟨za, hq0_1, hq0_1a, hq0_1b⟩ := hp0 _ (.tail _ (.head _))
    obtain ⟨sa, hq0_2, hsa⟩ := hp0 _ (.tail _ (.tail _ (.head _)))
    obtain ⟨wa, bsa, ca, hq0_3, hra, hq0_3l⟩ := hp0 _ (.tail _ (.tail _ (.tail _ (.head _))))
    have ecs0 := agg_of (cut_all [1, 1, 64, 1] (ps := [[.int .u8 zka], [.int .i64 za], bv sa, [wa]]) hl0 ⟨hq0_0, hq0_1, hq0_2, hq0_3, trivial⟩)
    subst ecs0
    obtain ⟨ka, rfl⟩ := u8_of hq0_0a hq0_0b
    have hza := inI64 hq0_1a hq0_1b
    obtain ⟨cs1, rfl, hcs1⟩ := okWide_struct Try.underlying26 (hval 1 26 v1 rfl rfl)
    obtain ⟨hl1, hp1⟩ := trod_of (dec_structL (t := 26) (s := 67) [(5, 0, 1, _), (3, 1, 1, _), (23, 2, 64, _), (24, 66, 1, _)] Try.underlying26 (by kernel_rfl) (by kernel_rfl) (by
      intro p hp; simp only [List.mem_cons, List.not_mem_nil, or_false] at hp
      rcases hp with rfl | rfl | rfl | rfl
      · exact dec_int Try.underlying5
      · exact dec_int Try.underlying3
      · exact dec_arr8 Try.underlying23 Try.underlying5 (by kernel_rfl) (by kernel_rfl)
      · exact dec_bytes Try.underlying24 Try.underlying5 (by kernel_rfl) (by kernel_rfl))) h1 (fun m hm => hw m (by simp only [DataW.weightsEach, List.mem_append]; exact .inr (.inl hm)))
    obtain ⟨zkb, hq1_0, hq1_0a, hq1_0b⟩ := hp1 _ (.head _)
    obtain ⟨zb, hq1_1, hq1_1a, hq1_1b⟩ := hp1 _ (.tail _ (.head _))
    obtain ⟨sb, hq1_2, hsb⟩ := hp1 _ (.tail _ (.tail _ (.head _)))
    obtain ⟨wb, bsb, cb, hq1_3, hrb, hq1_3l⟩ := hp1 _ (.tail _ (.tail _ (.tail _ (.head _))))
    have ecs1 := agg_of (cut_all [1, 1, 64, 1] (ps := [[.int .u8 zkb], [.int .i64 zb], bv sb, [wb]]) hl1 ⟨hq1_0, hq1_1, hq1_2, hq1_3, trivial⟩)
    subst ecs1
    obtain ⟨kb, rfl⟩ := u8_of hq1_0a hq1_0b
    have hzb := inI64 hq1_1a hq1_1b
    exact tagsApart_c ka kb za zb sa sb wa wb bsa bsb ca cb W hsa hsb hza hzb hra hrb

/-- The statement. -/
theorem tagsApart_holds : Rows.TagsApartSaid :=
  OpenClaim.holds_of_wide 3 Try.f3 rfl rfl rfl rfl rfl rfl rfl ⟨rfl, rfl, rfl, rfl, rfl⟩ rfl rfl rfl rfl rfl (by kernel_rfl) Try.func3 (by kernel_rfl)
    (of_decide_eq_true (by kernel_rfl)) (by unfold Func.isWrapper; first | (rw [if_pos (by decide +kernel)]; kernel_rfl) | (rw [if_neg (by decide +kernel)]; exact ⟨rfl, rfl⟩))
    (fun os started H enc _ => tagsApart_lifted os started H enc)
#print axioms tagsApart_holds
end Go.Proofs.Ytbljddjfcmbnpaa
