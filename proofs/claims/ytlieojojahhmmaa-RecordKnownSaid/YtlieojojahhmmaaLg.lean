/- Walks of functions of the given program that the claim reaches. -/
import Derived.Test.YtlieojojahhmmaaLb
set_option linter.unusedSimpArgs false
set_option linter.unusedVariables false
namespace Go.Proofs.Ytlieojojahhmmaa
open Go Go.Kx
theorem fo67_0 : fieldOff Try.prog 67 0 = some 0 := by kernel_rfl
theorem one24 : OneT Try.prog 24 := OneT.of Try.underlying24 rfl (by kernel_rfl)
theorem fo67_4 : fieldOff Try.prog 67 4 = some 97 := by kernel_rfl
theorem one3 : OneT Try.prog 3 := OneT.of Try.underlying3 rfl (by kernel_rfl)
theorem fo67_5 : fieldOff Try.prog 67 5 = some 98 := by kernel_rfl
theorem sz5 : (Try.prog.info? 5).map (·.size) = some 1 := by kernel_rfl
theorem arr27 : arrT Try.prog 27 = some (32, 1) := by kernel_rfl
theorem zero27 : Zero Try.prog 27 [bv (List.replicate 32 0)] := ⟨.agg ([bv (List.replicate 32 0)] : List (List Value)).flatten.toArray, by kernel_rfl, by kernel_rfl⟩
theorem row27 : RowT Try.prog 27 32 := RowT.of Try.underlying27 rfl (by kernel_rfl)
theorem sz27 : (Try.prog.info? 27).map (·.size) = some 32 := by kernel_rfl
theorem row67 : RowT Try.prog 67 99 := RowT.of Try.underlying67 rfl (by kernel_rfl)
theorem fo67_1 : fieldOff Try.prog 67 1 = some 1 := by kernel_rfl
theorem fo67_2 : fieldOff Try.prog 67 2 = some 33 := by kernel_rfl
theorem fo67_3 : fieldOff Try.prog 67 3 = some 65 := by kernel_rfl
theorem zero67 : Zero Try.prog 67 [[.int .u64 0], bv (List.replicate 32 0), bv (List.replicate 32 0), bv (List.replicate 32 0), [.int .i64 0], [.int .i64 0]] := ⟨.agg ([[.int .u64 0], bv (List.replicate 32 0), bv (List.replicate 32 0), bv (List.replicate 32 0), [.int .i64 0], [.int .i64 0]] : List (List Value)).flatten.toArray, by kernel_rfl, by kernel_rfl⟩
theorem fpl67 : fldPl Try.prog 67 = some (plc 0 [1, 32, 32, 32, 1, 1]) := by kernel_rfl
theorem sz67 : (Try.prog.info? 67).map (·.size) = some 99 := by kernel_rfl
theorem sl111 : SlT Try.prog 111 110 1 8 := ⟨Try.underlying111, by kernel_rfl, by kernel_rfl, .pointer none, by kernel_rfl, rfl⟩
theorem slt111 : slT Try.prog 111 = some 1 := by kernel_rfl
theorem one110 : OneT Try.prog 110 := OneT.of Try.underlying110 rfl (by kernel_rfl)
theorem sz3 : (Try.prog.info? 3).map (·.size) = some 1 := by kernel_rfl
theorem num_fit (bs : List UInt8) (v : Value) (c k m : Nat) (w : World) (hr : (rd v 1 bs.length c (bv bs)).holds w) (hw : widthB (k : Int) = true) (hf : 8 ≤ k ∨ m < 256 ^ k) (hlen : bs.length + 8 ≤ 140737488355328) : Calls Try.prog 52 #[v, .int .i64 (k : Int), .int .u64 (m : Int)] w fun e w' => ∃ v', e = .returned (.tuple #[v', .int .i64 0]) ∧ Mem w [] w' [own v' 1 (bs ++ laid k m).length (bv (bs ++ laid k m))] := by
  have h := num_c bs v c k m w hr hlen
  rw [pNum_fit hw hf] at h
  exact h
theorem number_c (z : Int) (w : World)  : Calls Try.prog 76 #[.int .i64 z] w fun e w' => e = .returned (.bool (numB z)) ∧ Mem w [] w' [] := by
  have hM := Mem.start0 w
  refine f_enter 9 Try.func76 rfl rfl rfl ?_
  intro a hE
  replace hE : Env a 9 [(0, _)] := hE
  refine wp_seq_k (fun K1 hK1 => ?_)
  refine wp_plain [true] rfl rfl ?_
  refine s_assign hE rfl rfl ?_; clear hE a; intro a hE
  refine q_nil ?_
  refine hK1 _ _ ?_
  refine wp_seq_k (fun K2 hK2 => ?_)
  refine wp_plain [true, true, true, true, true, true, true] rfl rfl ?_
  refine s_move hE rfl rfl ?_; clear hE a; intro a hE
  refine s_bin hE rfl rfl bin_geq rfl ?_; clear hE a; intro a hE
  refine s_move hE rfl rfl ?_; clear hE a; intro a hE
  refine hE.split 5 rfl (fun hb5 hE' => ?_) (fun hb5 hE' => ?_)
  · replace hE := hE'; clear hE'
    replace hb5 := of_decide_eq_true hb5
    refine g_yes hE rfl rfl ?_
    refine s_move hE rfl rfl ?_; clear hE a; intro a hE
    refine g_yes hE rfl rfl ?_
    refine s_bin hE rfl rfl bin_leq rfl ?_; clear hE a; intro a hE
    refine s_pickt hE rfl rfl rfl ?_; clear hE a; intro a hE
    refine s_assign hE rfl rfl ?_; clear hE a; intro a hE
    refine q_nil ?_
    replace hE : Env a 9 [(2, _)] := hE.sel [2] rfl
    refine hK2 _ _ ?_
    refine wp_ret ?_
    refine f_ret1 hE rfl rfl ?_
    exact ⟨(by simp [numB, hb5]), hM.pick [] rfl⟩
  · replace hE := hE'; clear hE'
    replace hb5 := of_decide_eq_false hb5
    refine g_no (b := false) hE rfl rfl rfl ?_; clear hE a; intro a hE
    refine g_no (b := false) hE rfl rfl rfl ?_; clear hE a; intro a hE
    refine s_pickf hE rfl rfl rfl ?_; clear hE a; intro a hE
    refine s_assign hE rfl rfl ?_; clear hE a; intro a hE
    refine q_nil ?_
    replace hE : Env a 9 [(2, _)] := hE.sel [2] rfl
    refine hK2 _ _ ?_
    refine wp_ret ?_
    refine f_ret1 hE rfl rfl ?_
    exact ⟨(by simp [numB, hb5]), hM.pick [] rfl⟩
theorem root_c (rc : Nat) (rt : List UInt8) (rh : List UInt8) (rb : List UInt8) (rm : Int) (ry : Int) (w : World) (hl_rt : rt.length = 32) (hl_rh : rh.length = 32) (hl_rb : rb.length = 32) : Calls Try.prog 51 #[.agg ([[.int .u64 ((rc : Nat) : Int)], bv rt, bv rh, bv rb, [.int .i64 rm], [.int .i64 ry]] : List (List Value)).flatten.toArray] w fun e w' => e = .returned (.bool (rootOk rc rm ry)) ∧ Mem w [] w' [] := by
  have hM := Mem.start0 w
  refine f_enter 16 Try.func51 rfl rfl rfl ?_
  intro a hE
  replace hE : Env a 16 [(0, _)] := hE
  refine wp_seq_k (fun K1 hK1 => ?_)
  refine wp_plain [false, true] rfl rfl ?_
  refine s_box (ss := [[.int .u64 ((rc : Nat) : Int)], bv rt, bv rh, bv rb, [.int .i64 rm], [.int .i64 ry]]) [1, 32, 32, 32, 1, 1] hE hM rfl rfl (by simp [*]) rfl ?_; clear hE a; intro a b1 w1 hE hM'
  clear hM; have hM := hM'; clear hM'
  refine s_assign hE rfl rfl ?_; clear hE a; intro a hE
  refine q_nil ?_
  replace hE : Env a 16 [(1, _), (2, _)] := hE.sel [1, 2] rfl
  refine hK1 _ _ ?_
  refine wp_seq_k (fun K2 hK2 => ?_)
  refine wp_plain [true, true, true, true, true, true, false, true, true, true, true, false, true, true] rfl rfl ?_
  refine s_fieldAddr hE rfl fo67_0 rfl ?_; clear hE a; intro a hE
  refine s_load1 hE rfl (hM.get 0 rfl) rfl one24 (by intro X h; cases h) rfl ?_; clear hE a; intro a hE
  refine s_bin hE rfl rfl bin_leq rfl ?_; clear hE a; intro a hE
  refine s_move hE rfl rfl ?_; clear hE a; intro a hE
  refine hE.split 6 rfl (fun hb6 hE' => ?_) (fun hb6 hE' => ?_)
  · replace hE := hE'; clear hE'
    replace hb6 := of_decide_eq_true hb6
    replace hb6 : rc ≤ 4611686018427387904 := by omega
    refine g_yes hE rfl rfl ?_
    refine s_fieldAddr hE rfl fo67_4 rfl ?_; clear hE a; intro a hE
    refine g_yes hE rfl rfl ?_
    refine s_load1 hE rfl (hM.get 0 rfl) rfl one3 (by intro X h; cases h) rfl ?_; clear hE a; intro a hE
    refine g_yes hE rfl rfl ?_
    refine s_call hE rfl Try.call76 (number_c rm _ ) rfl ?_
    rintro e w2 ⟨rfl, hN⟩
    refine ⟨_, rfl, trivial, ?_⟩; clear hE a; intro a hE
    replace hM : Mem _ _ w2 [_] := hM.call0 hN trivial; clear hN
    refine s_pickt hE rfl rfl rfl ?_; clear hE a; intro a hE
    refine s_move hE rfl rfl ?_; clear hE a; intro a hE
    refine hE.split 11 rfl (fun hb11 hE' => ?_) (fun hb11 hE' => ?_)
    · replace hE := hE'; clear hE'
      refine g_yes hE rfl rfl ?_
      refine s_fieldAddr hE rfl fo67_5 rfl ?_; clear hE a; intro a hE
      refine g_yes hE rfl rfl ?_
      refine s_load1 hE rfl (hM.get 0 rfl) rfl one3 (by intro X h; cases h) rfl ?_; clear hE a; intro a hE
      refine g_yes hE rfl rfl ?_
      refine s_call hE rfl Try.call76 (number_c ry _ ) rfl ?_
      rintro e w3 ⟨rfl, hN⟩
      refine ⟨_, rfl, trivial, ?_⟩; clear hE a; intro a hE
      replace hM : Mem _ _ w3 [_] := hM.call0 hN trivial; clear hN
      refine s_pickt hE rfl rfl rfl ?_; clear hE a; intro a hE
      refine s_assign hE rfl rfl ?_; clear hE a; intro a hE
      refine q_nil ?_
      replace hE : Env a 16 [(2, _)] := hE.sel [2] rfl
      refine hK2 _ _ ?_
      refine wp_ret ?_
      refine f_ret1 hE rfl rfl ?_
      exact ⟨(by simp [rootOk, hb6, hb11]), hM.pick [] rfl⟩
    · replace hE := hE'; clear hE'
      refine g_no (b := false) hE rfl rfl rfl ?_; clear hE a; intro a hE
      refine g_no (b := false) hE rfl rfl rfl ?_; clear hE a; intro a hE
      refine g_no (b := false) hE rfl rfl rfl ?_; clear hE a; intro a hE
      refine s_pickf hE rfl rfl rfl ?_; clear hE a; intro a hE
      refine s_assign hE rfl rfl ?_; clear hE a; intro a hE
      refine q_nil ?_
      replace hE : Env a 16 [(2, _)] := hE.sel [2] rfl
      refine hK2 _ _ ?_
      refine wp_ret ?_
      refine f_ret1 hE rfl rfl ?_
      exact ⟨(by simp [rootOk, hb6, hb11]), hM.pick [] rfl⟩
  · replace hE := hE'; clear hE'
    replace hb6 := of_decide_eq_false hb6
    replace hb6 : ¬ (rc ≤ 4611686018427387904) := by omega
    refine g_no (b := false) hE rfl rfl rfl ?_; clear hE a; intro a hE
    refine g_no (b := false) hE rfl rfl rfl ?_; clear hE a; intro a hE
    refine g_no (b := false) hE rfl rfl rfl ?_; clear hE a; intro a hE
    refine s_pickf hE rfl rfl rfl ?_; clear hE a; intro a hE
    refine s_move hE rfl rfl ?_; clear hE a; intro a hE
    refine g_no (b := false) hE rfl rfl rfl ?_; clear hE a; intro a hE
    refine g_no (b := false) hE rfl rfl rfl ?_; clear hE a; intro a hE
    refine g_no (b := false) hE rfl rfl rfl ?_; clear hE a; intro a hE
    refine s_pickf hE rfl rfl rfl ?_; clear hE a; intro a hE
    refine s_assign hE rfl rfl ?_; clear hE a; intro a hE
    refine q_nil ?_
    replace hE : Env a 16 [(2, _)] := hE.sel [2] rfl
    refine hK2 _ _ ?_
    refine wp_ret ?_
    refine f_ret1 hE rfl rfl ?_
    exact ⟨(by simp [rootOk, hb6]), hM.pick [] rfl⟩
theorem rmayroot_c (rc : Nat) (rt : List UInt8) (rh : List UInt8) (rb : List UInt8) (rm : Int) (ry : Int) (w : World) (hl_rt : rt.length = 32) (hl_rh : rh.length = 32) (hl_rb : rb.length = 32) : Calls Try.prog 53 #[.agg ([[.int .u64 ((rc : Nat) : Int)], bv rt, bv rh, bv rb, [.int .i64 rm], [.int .i64 ry]] : List (List Value)).flatten.toArray] w fun e w' => e = .returned (.bool (rootOk rc rm ry)) ∧ Mem w [] w' [] := by
  have hM := Mem.start0 w
  refine f_enter 26 Try.func53 rfl rfl rfl ?_
  intro a hE
  replace hE : Env a 26 [(0, _)] := hE
  refine wp_seq_k (fun K1 hK1 => ?_)
  refine wp_plain [false, true] rfl rfl ?_
  refine s_box (ss := [[.int .u64 ((rc : Nat) : Int)], bv rt, bv rh, bv rb, [.int .i64 rm], [.int .i64 ry]]) [1, 32, 32, 32, 1, 1] hE hM rfl rfl (by simp [*]) rfl ?_; clear hE a; intro a b1 w1 hE hM'
  clear hM; have hM := hM'; clear hM'
  refine s_assign hE rfl rfl ?_; clear hE a; intro a hE
  refine q_nil ?_
  replace hE : Env a 26 [(1, _), (2, _)] := hE.sel [1, 2] rfl
  refine hK1 _ _ ?_
  refine wp_seq_k (fun K2 hK2 => ?_)
  refine wp_plain [true, true, true, true, true, true, true, true, true, true, true, true, true, true, true, true, true, true, true, true, true, true, true, true] rfl rfl ?_
  refine s_fieldAddr hE rfl fo67_0 rfl ?_; clear hE a; intro a hE
  refine s_load1 hE rfl (hM.get 0 rfl) rfl one24 (by intro X h; cases h) rfl ?_; clear hE a; intro a hE
  refine s_bin hE rfl rfl bin_leq rfl ?_; clear hE a; intro a hE
  refine s_move hE rfl rfl ?_; clear hE a; intro a hE
  refine hE.split 6 rfl (fun hb6 hE' => ?_) (fun hb6 hE' => ?_)
  · replace hE := hE'; clear hE'
    replace hb6 := of_decide_eq_true hb6
    replace hb6 : rc ≤ 4611686018427387904 := by omega
    refine g_yes hE rfl rfl ?_
    refine s_fieldAddr hE rfl fo67_4 rfl ?_; clear hE a; intro a hE
    refine g_yes hE rfl rfl ?_
    refine s_load1 hE rfl (hM.get 0 rfl) rfl one3 (by intro X h; cases h) rfl ?_; clear hE a; intro a hE
    refine g_yes hE rfl rfl ?_
    refine s_bin hE rfl rfl bin_geq rfl ?_; clear hE a; intro a hE
    refine s_pickt hE rfl rfl rfl ?_; clear hE a; intro a hE
    refine s_move hE rfl rfl ?_; clear hE a; intro a hE
    refine hE.split 11 rfl (fun hb11 hE' => ?_) (fun hb11 hE' => ?_)
    · replace hE := hE'; clear hE'
      replace hb11 := of_decide_eq_true hb11
      refine g_yes hE rfl rfl ?_
      refine s_fieldAddr hE rfl fo67_4 rfl ?_; clear hE a; intro a hE
      refine g_yes hE rfl rfl ?_
      refine s_load1 hE rfl (hM.get 0 rfl) rfl one3 (by intro X h; cases h) rfl ?_; clear hE a; intro a hE
      refine g_yes hE rfl rfl ?_
      refine s_bin hE rfl rfl bin_leq rfl ?_; clear hE a; intro a hE
      refine s_pickt hE rfl rfl rfl ?_; clear hE a; intro a hE
      refine s_move hE rfl rfl ?_; clear hE a; intro a hE
      refine hE.split 16 rfl (fun hb16 hE' => ?_) (fun hb16 hE' => ?_)
      · replace hE := hE'; clear hE'
        replace hb16 := of_decide_eq_true hb16
        refine g_yes hE rfl rfl ?_
        refine s_fieldAddr hE rfl fo67_5 rfl ?_; clear hE a; intro a hE
        refine g_yes hE rfl rfl ?_
        refine s_load1 hE rfl (hM.get 0 rfl) rfl one3 (by intro X h; cases h) rfl ?_; clear hE a; intro a hE
        refine g_yes hE rfl rfl ?_
        refine s_bin hE rfl rfl bin_geq rfl ?_; clear hE a; intro a hE
        refine s_pickt hE rfl rfl rfl ?_; clear hE a; intro a hE
        refine s_move hE rfl rfl ?_; clear hE a; intro a hE
        refine hE.split 21 rfl (fun hb21 hE' => ?_) (fun hb21 hE' => ?_)
        · replace hE := hE'; clear hE'
          replace hb21 := of_decide_eq_true hb21
          refine g_yes hE rfl rfl ?_
          refine s_fieldAddr hE rfl fo67_5 rfl ?_; clear hE a; intro a hE
          refine g_yes hE rfl rfl ?_
          refine s_load1 hE rfl (hM.get 0 rfl) rfl one3 (by intro X h; cases h) rfl ?_; clear hE a; intro a hE
          refine g_yes hE rfl rfl ?_
          refine s_bin hE rfl rfl bin_leq rfl ?_; clear hE a; intro a hE
          refine s_pickt hE rfl rfl rfl ?_; clear hE a; intro a hE
          refine s_assign hE rfl rfl ?_; clear hE a; intro a hE
          refine q_nil ?_
          replace hE : Env a 26 [(2, _)] := hE.sel [2] rfl
          refine hK2 _ _ ?_
          refine wp_ret ?_
          refine f_ret1 hE rfl rfl ?_
          exact ⟨(by simp [rootOk, numB, hb6, hb11, hb16, hb21]), hM.pick [] rfl⟩
        · replace hE := hE'; clear hE'
          replace hb21 := of_decide_eq_false hb21
          refine g_no (b := false) hE rfl rfl rfl ?_; clear hE a; intro a hE
          refine g_no (b := false) hE rfl rfl rfl ?_; clear hE a; intro a hE
          refine g_no (b := false) hE rfl rfl rfl ?_; clear hE a; intro a hE
          refine s_pickf hE rfl rfl rfl ?_; clear hE a; intro a hE
          refine s_assign hE rfl rfl ?_; clear hE a; intro a hE
          refine q_nil ?_
          replace hE : Env a 26 [(2, _)] := hE.sel [2] rfl
          refine hK2 _ _ ?_
          refine wp_ret ?_
          refine f_ret1 hE rfl rfl ?_
          exact ⟨(by simp [rootOk, numB, hb6, hb11, hb16, hb21]), hM.pick [] rfl⟩
      · replace hE := hE'; clear hE'
        replace hb16 := of_decide_eq_false hb16
        refine g_no (b := false) hE rfl rfl rfl ?_; clear hE a; intro a hE
        refine g_no (b := false) hE rfl rfl rfl ?_; clear hE a; intro a hE
        refine g_no (b := false) hE rfl rfl rfl ?_; clear hE a; intro a hE
        refine s_pickf hE rfl rfl rfl ?_; clear hE a; intro a hE
        refine s_move hE rfl rfl ?_; clear hE a; intro a hE
        refine g_no (b := false) hE rfl rfl rfl ?_; clear hE a; intro a hE
        refine g_no (b := false) hE rfl rfl rfl ?_; clear hE a; intro a hE
        refine g_no (b := false) hE rfl rfl rfl ?_; clear hE a; intro a hE
        refine s_pickf hE rfl rfl rfl ?_; clear hE a; intro a hE
        refine s_assign hE rfl rfl ?_; clear hE a; intro a hE
        refine q_nil ?_
        replace hE : Env a 26 [(2, _)] := hE.sel [2] rfl
        refine hK2 _ _ ?_
        refine wp_ret ?_
        refine f_ret1 hE rfl rfl ?_
        exact ⟨(by simp [rootOk, numB, hb6, hb11, hb16]), hM.pick [] rfl⟩
    · replace hE := hE'; clear hE'
      replace hb11 := of_decide_eq_false hb11
      refine g_no (b := false) hE rfl rfl rfl ?_; clear hE a; intro a hE
      refine g_no (b := false) hE rfl rfl rfl ?_; clear hE a; intro a hE
      refine g_no (b := false) hE rfl rfl rfl ?_; clear hE a; intro a hE
      refine s_pickf hE rfl rfl rfl ?_; clear hE a; intro a hE
      refine s_move hE rfl rfl ?_; clear hE a; intro a hE
      refine g_no (b := false) hE rfl rfl rfl ?_; clear hE a; intro a hE
      refine g_no (b := false) hE rfl rfl rfl ?_; clear hE a; intro a hE
      refine g_no (b := false) hE rfl rfl rfl ?_; clear hE a; intro a hE
      refine s_pickf hE rfl rfl rfl ?_; clear hE a; intro a hE
      refine s_move hE rfl rfl ?_; clear hE a; intro a hE
      refine g_no (b := false) hE rfl rfl rfl ?_; clear hE a; intro a hE
      refine g_no (b := false) hE rfl rfl rfl ?_; clear hE a; intro a hE
      refine g_no (b := false) hE rfl rfl rfl ?_; clear hE a; intro a hE
      refine s_pickf hE rfl rfl rfl ?_; clear hE a; intro a hE
      refine s_assign hE rfl rfl ?_; clear hE a; intro a hE
      refine q_nil ?_
      replace hE : Env a 26 [(2, _)] := hE.sel [2] rfl
      refine hK2 _ _ ?_
      refine wp_ret ?_
      refine f_ret1 hE rfl rfl ?_
      exact ⟨(by simp [rootOk, numB, hb6, hb11]), hM.pick [] rfl⟩
  · replace hE := hE'; clear hE'
    replace hb6 := of_decide_eq_false hb6
    replace hb6 : ¬ (rc ≤ 4611686018427387904) := by omega
    refine g_no (b := false) hE rfl rfl rfl ?_; clear hE a; intro a hE
    refine g_no (b := false) hE rfl rfl rfl ?_; clear hE a; intro a hE
    refine g_no (b := false) hE rfl rfl rfl ?_; clear hE a; intro a hE
    refine s_pickf hE rfl rfl rfl ?_; clear hE a; intro a hE
    refine s_move hE rfl rfl ?_; clear hE a; intro a hE
    refine g_no (b := false) hE rfl rfl rfl ?_; clear hE a; intro a hE
    refine g_no (b := false) hE rfl rfl rfl ?_; clear hE a; intro a hE
    refine g_no (b := false) hE rfl rfl rfl ?_; clear hE a; intro a hE
    refine s_pickf hE rfl rfl rfl ?_; clear hE a; intro a hE
    refine s_move hE rfl rfl ?_; clear hE a; intro a hE
    refine g_no (b := false) hE rfl rfl rfl ?_; clear hE a; intro a hE
    refine g_no (b := false) hE rfl rfl rfl ?_; clear hE a; intro a hE
    refine g_no (b := false) hE rfl rfl rfl ?_; clear hE a; intro a hE
    refine s_pickf hE rfl rfl rfl ?_; clear hE a; intro a hE
    refine s_move hE rfl rfl ?_; clear hE a; intro a hE
    refine g_no (b := false) hE rfl rfl rfl ?_; clear hE a; intro a hE
    refine g_no (b := false) hE rfl rfl rfl ?_; clear hE a; intro a hE
    refine g_no (b := false) hE rfl rfl rfl ?_; clear hE a; intro a hE
    refine s_pickf hE rfl rfl rfl ?_; clear hE a; intro a hE
    refine s_assign hE rfl rfl ?_; clear hE a; intro a hE
    refine q_nil ?_
    replace hE : Env a 26 [(2, _)] := hE.sel [2] rfl
    refine hK2 _ _ ?_
    refine wp_ret ?_
    refine f_ret1 hE rfl rfl ?_
    exact ⟨(by simp [rootOk, numB, hb6]), hM.pick [] rfl⟩
theorem rnumber_c (m : Nat) (k : Nat) (w : World) (hm : m < 18446744073709551616) (hk : k ≤ 8) : Calls Try.prog 54 #[.int .u64 (m : Int), .int .i64 (k : Int)] w fun e w' => ∃ v', e = .returned (v') ∧ Mem w [] w' [own v' 1 (laid k m).length (bv (laid k m))] := by
  have hM := Mem.start0 w
  refine f_enter 24 Try.func54 rfl rfl rfl ?_
  intro a hE
  replace hE : Env a 24 [(0, _), (1, _)] := hE
  refine wp_seq_k (fun K1 hK1 => ?_)
  refine wp_plain [true] rfl rfl ?_
  refine s_assign hE rfl rfl ?_; clear hE a; intro a hE
  refine q_nil ?_
  refine hK1 _ _ ?_
  refine wp_seq_k (fun K2 hK2 => ?_)
  refine wp_plain [true, false, true] rfl rfl ?_
  refine s_move hE rfl rfl ?_; clear hE a; intro a hE
  refine s_makeSlice (m := k) (zc := [bV 0]) hE rfl rfl hM sl55 ⟨.int .u8 0, by kernel_rfl, rfl⟩ rfl rfl (by omega) (by omega) (by decide) rfl ?_; clear hE a; intro a v8 w1 hE hM'; clear hM; have hM := hM'; clear hM'
  replace hM := hM.ownEq (m' := (List.replicate k (0 : UInt8)).length) (cs' := bv (List.replicate k (0 : UInt8))) (by simp) (by simp [bv])
  refine s_assign hE rfl rfl ?_; clear hE a; intro a hE
  refine q_nil ?_
  replace hE : Env a 24 [(0, _), (1, _), (4, _), (5, _)] := hE.sel [0, 1, 4, 5] rfl
  refine hK2 _ _ ?_
  refine wp_seq_k (fun K3 hK3 => ?_)
  refine wp_seq_k (fun K4 hK4 => ?_)
  refine wp_plain [true, true, true] rfl rfl ?_
  refine s_move hE rfl rfl ?_; clear hE a; intro a hE
  refine s_bin hE rfl rfl (bin_sub (wrap_i64 (by omega) (by omega))) rfl ?_; clear hE a; intro a hE
  refine s_assign hE rfl rfl ?_; clear hE a; intro a hE
  refine q_nil ?_
  replace hE : Env a 24 [(0, _), (1, _), (4, _), (5, _), (6, _)] := hE.sel [0, 1, 4, 5, 6] rfl
  refine hK4 _ _ ?_
  refine wp_block ?_
  replace hM := Mem.ownB (p := List.replicate k (0 : UInt8)) (q := List.replicate (k - 0) 0 ++ laid 0 m) hM (by simp [laid])
  replace hE := hE.cast 6 rfl (show _ = Value.int .i64 ((k : Int) - 1 - ((0 : Nat) : Int)) from (by first | rfl | simp))
  replace hE := hE.cast 0 rfl (show _ = Value.int .u64 ((m / 256 ^ 0 : Nat) : Int) from (by first | rfl | simp))
  refine c_loop (fun (j : Nat) a w' => j ≤ k ∧ Env a 24 [(0, .int .u64 ((m / 256 ^ j : Nat) : Int)), (1, .int .i64 ((k : Nat) : Int)), (4, .slice none 0 0), (5, v8), (6, .int .i64 ((k : Int) - 1 - ((j : Nat) : Int)))] ∧ Mem w [] w' [own v8 1 (List.replicate (k - j) 0 ++ laid j m).length (bv (List.replicate (k - j) 0 ++ laid j m))]) (fun j => k - j) 0 ⟨Nat.zero_le _, hE.sel [0, 1, 4, 5, 6] rfl, hM⟩ ?_
  clear hE hM a; rintro j a w2 ⟨hj, hE, hM⟩
  refine wp_seq_k (fun K5 hK5 => ?_)
  refine wp_seq_k (fun K6 hK6 => ?_)
  refine wp_plain [true, true] rfl rfl ?_
  refine s_move hE rfl rfl ?_; clear hE a; intro a hE
  refine s_bin hE rfl rfl bin_geq rfl ?_; clear hE a; intro a hE
  refine q_nil ?_
  replace hE : Env a 24 [(0, _), (1, _), (4, _), (5, _), (6, _), (12, _)] := hE.sel [0, 1, 4, 5, 6, 12] rfl
  refine hK6 _ _ ?_
  refine hE.split 12 rfl (fun hb12 hE' => ?_) (fun hb12 hE' => ?_)
  · replace hE := hE'; clear hE'
    replace hb12 := of_decide_eq_true hb12
    replace hb12 : j < k := by omega
    refine wp_cond_true (hE.eval rfl) ?_
    refine wp_skip ?_
    refine hK5 _ _ ?_
    refine wp_seq_k (fun K7 hK7 => ?_)
    refine wp_block ?_
    refine wp_seq_k (fun K8 hK8 => ?_)
    refine wp_plain [true, true, true, true, true, true, false] rfl rfl ?_
    refine s_move hE rfl rfl ?_; clear hE a; intro a hE
    refine s_move hE rfl rfl ?_; clear hE a; intro a hE
    refine s_move hE rfl rfl ?_; clear hE a; intro a hE
    refine s_bin hE rfl rfl (bin_rem_nat (m := (m / 256 ^ j)) (s := 256) (by decide)) rfl ?_; clear hE a; intro a hE
    refine s_conv hE rfl (cnv_int Try.underlying24 Try.underlying5 (wrap_u8_ofNat ((m / 256 ^ j) % 256))) rfl ?_; clear hE a; intro a hE
    refine s_indexOwn (j := k - 1 - j) hE rfl (hM.get 0 rfl) rfl slt55 (by first | rfl | omega) (by have hl_ : (List.replicate (k - j) 0 ++ laid j m).length = k := (numI_len (by omega)); first | omega | (rw [bv_length]; omega) | (simp; omega)) rfl ?_; clear hE a; intro a hE hc20
    refine s_storeOwn (vs := [_]) hE rfl rfl hM rfl sz5 rfl (one1 rfl) (by have hl_ : (List.replicate (k - j) 0 ++ laid j m).length = k := (numI_len (by omega)); first | omega | (simp; omega)) (by have hl_ : (List.replicate (k - j) 0 ++ laid j m).length = k := (numI_len (by omega)); first | omega | (simp; omega)) (by intro X h; cases h) ?_; intro w3 hM'; clear hM; have hM := hM'; clear hM'
    replace hM := Mem.ownSet (p := List.replicate (k - j) 0 ++ laid j m) (j := k - 1 - j) (b := UInt8.ofNat ((m / 256 ^ j) % 256)) hM (by have hl_ : (List.replicate (k - j) 0 ++ laid j m).length = k := (numI_len (by omega)); first | omega | (rw [bv_length]; omega) | (simp; omega))
    refine q_nil ?_
    replace hE : Env a 24 [(0, _), (1, _), (4, _), (5, _), (6, _), (12, _)] := hE.sel [0, 1, 4, 5, 6, 12] rfl
    refine hK8 _ _ ?_
    refine wp_plain [true, true, true] rfl rfl ?_
    refine s_move hE rfl rfl ?_; clear hE a; intro a hE
    refine s_bin hE rfl rfl (bin_quo_nat (m := (m / 256 ^ j)) (s := 256) (by decide) (wrap_u64n (div_lt64 (by first | omega | exact div_lt64 (by omega) | exact div_lt64 (by assumption))))) rfl ?_; clear hE a; intro a hE
    refine s_assign hE rfl rfl ?_; clear hE a; intro a hE
    refine q_nil ?_
    replace hE : Env a 24 [(0, _), (1, _), (4, _), (5, _), (6, _), (12, _)] := hE.sel [0, 1, 4, 5, 6, 12] rfl
    refine q_block_n ?_
    refine hK7 _ _ ?_
    refine wp_plain [true, true, true] rfl rfl ?_
    refine s_move hE rfl rfl ?_; clear hE a; intro a hE
    refine s_bin hE rfl rfl (bin_sub (wrap_i64 (by omega) (by omega))) rfl ?_; clear hE a; intro a hE
    refine s_assign hE rfl rfl ?_; clear hE a; intro a hE
    refine q_nil ?_
    replace hE : Env a 24 [(0, _), (1, _), (4, _), (5, _), (6, _), (12, _)] := hE.sel [0, 1, 4, 5, 6, 12] rfl
    replace hE := hE.cast 0 rfl (show _ = Value.int .u64 ((m / 256 ^ (j + 1) : Nat) : Int) from (by rw [Nat.div_div_eq_div_mul, ← Nat.pow_succ]))
    replace hE := hE.cast 6 rfl (show _ = Value.int .i64 ((k : Int) - 1 - (((j + 1) : Nat) : Int)) from (congrArg _ (by omega)))
    replace hM := Mem.ownB (p := (List.replicate (k - j) 0 ++ laid j m).set (k - 1 - j) (UInt8.ofNat ((m / 256 ^ j) % 256))) (q := List.replicate (k - (j + 1)) 0 ++ laid (j + 1) m) hM (numI_set (by omega))
    replace hM : Mem _ _ w3 [_] := hM.pick [0] rfl
    exact ⟨j + 1, ⟨by omega, hE.sel [0, 1, 4, 5, 6] rfl, hM⟩, by omega⟩
  · replace hE := hE'; clear hE'
    replace hb12 := of_decide_eq_false hb12
    obtain rfl : k = j := by omega
    replace hM := Mem.ownB (p := List.replicate (k - k) 0 ++ laid k m) (q := laid k m) hM (by simp)
    refine wp_cond_false (hE.eval rfl) ?_
    refine wp_exit ?_
    refine q_then_e ?_
    refine q_then_e ?_
    refine q_block_x ?_
    refine hK3 _ _ ?_
    refine wp_seq_k (fun K7 hK7 => ?_)
    refine wp_plain [true, true] rfl rfl ?_
    refine s_move hE rfl rfl ?_; clear hE a; intro a hE
    refine s_assign hE rfl rfl ?_; clear hE a; intro a hE
    refine q_nil ?_
    replace hE : Env a 24 [(0, _), (1, _), (4, _), (5, _), (6, _), (12, _)] := hE.sel [0, 1, 4, 5, 6, 12] rfl
    refine hK7 _ _ ?_
    refine wp_ret ?_
    refine f_ret1 hE rfl rfl ?_
    exact ⟨_, (by first | rfl | (simp; done)), hM.pick [0] rfl⟩
theorem rvalue_c (v : Value) (bs : List UInt8) (c : Nat) (w : World) (hr_bs : (rd v 1 bs.length c (bv bs)).holds w) (hk : bs.length ≤ 8) : Calls Try.prog 58 #[v] w fun e w' => e = .returned (.int .u64 ((val bs : Nat) : Int)) ∧ Mem w [] w' [] := by
  have hM : Mem w [] w [rd v 1 bs.length c (bv bs)] := Mem.startR w (fun g hg => by
    simp only [List.mem_cons, List.not_mem_nil, or_false] at hg
    rcases hg with rfl
    · exact ⟨hr_bs, rfl⟩)
  refine f_enter 20 Try.func58 rfl rfl rfl ?_
  intro a hE
  replace hE : Env a 20 [(0, _)] := hE
  refine wp_seq_k (fun K1 hK1 => ?_)
  refine wp_plain [true] rfl rfl ?_
  refine s_assign hE rfl rfl ?_; clear hE a; intro a hE
  refine q_nil ?_
  refine hK1 _ _ ?_
  refine wp_seq_k (fun K2 hK2 => ?_)
  refine wp_plain [true] rfl rfl ?_
  refine s_assign hE rfl rfl ?_; clear hE a; intro a hE
  refine q_nil ?_
  refine hK2 _ _ ?_
  refine wp_seq_k (fun K3 hK3 => ?_)
  refine wp_seq_k (fun K4 hK4 => ?_)
  refine wp_plain [true] rfl rfl ?_
  refine s_assign hE rfl rfl ?_; clear hE a; intro a hE
  refine q_nil ?_
  refine hK4 _ _ ?_
  refine wp_block ?_
  replace hE := hE.cast 3 rfl (show _ = Value.int .u64 ((val (bs.take 0) : Nat) : Int) from (by first | rfl | simp))
  refine c_loop (fun (i : Nat) a w' => i ≤ bs.length ∧ Env a 20 [(0, v), (2, .int .u64 0), (3, .int .u64 ((val (bs.take i) : Nat) : Int)), (4, .int .i64 ((i : Nat) : Int))] ∧ Mem w [] w' [rd v 1 bs.length c (bv bs)]) (fun i => bs.length - i) 0 ⟨Nat.zero_le _, hE.sel [0, 2, 3, 4] rfl, hM⟩ ?_
  clear hE hM a; rintro i a w1 ⟨hi, hE, hM⟩
  refine wp_seq_k (fun K5 hK5 => ?_)
  refine wp_seq_k (fun K6 hK6 => ?_)
  refine wp_plain [true, true, true, true] rfl rfl ?_
  refine s_move hE rfl rfl ?_; clear hE a; intro a hE
  refine s_move hE rfl rfl ?_; clear hE a; intro a hE
  refine s_len hE rfl Try.underlying55 (rd_slice (hM.get 0 rfl)) rfl ?_; clear hE a; intro a hE
  refine s_bin hE rfl rfl bin_lss rfl ?_; clear hE a; intro a hE
  refine q_nil ?_
  replace hE : Env a 20 [(0, _), (2, _), (3, _), (4, _), (8, _)] := hE.sel [0, 2, 3, 4, 8] rfl
  refine hK6 _ _ ?_
  refine hE.split 8 rfl (fun hb8 hE' => ?_) (fun hb8 hE' => ?_)
  · replace hE := hE'; clear hE'
    replace hb8 := of_decide_eq_true hb8
    replace hb8 : i < bs.length := by omega
    replace hb8 : i < bs.length := by omega
    have hv56 := val_lt56 (bs := bs.take i) (by simp; omega)
    have hb8t := (bs.getD i 0).toNat_lt
    refine wp_cond_true (hE.eval rfl) ?_
    refine wp_skip ?_
    refine hK5 _ _ ?_
    refine wp_seq_k (fun K7 hK7 => ?_)
    refine wp_block ?_
    refine wp_plain [true, true, true, true, true, true, true, true, true] rfl rfl ?_
    refine s_move hE rfl rfl ?_; clear hE a; intro a hE
    refine s_bin hE rfl rfl (show Bin _ _ _ _ _ (.int .u64 ((256 * (val (bs.take i)) : Nat) : Int)) from bin_mul (by rw [wrap_u64 (by omega) (by omega)]; omega)) rfl ?_; clear hE a; intro a hE
    refine s_move hE rfl rfl ?_; clear hE a; intro a hE
    refine s_move hE rfl rfl ?_; clear hE a; intro a hE
    refine s_indexRd (j := i) hE rfl (hM.get 0 rfl) rfl slt55 (by first | rfl | omega) (by first | omega | (rw [bv_length]; omega) | (simp; omega)) rfl ?_; clear hE a; intro a p15 hE hc15 hp15
    rw [bv_elem (by first | omega | (rw [bv_length]; omega) | (simp; omega))] at hc15
    refine s_loadAt1 hE rfl hc15 one5 (by intro X h; cases h) rfl ?_; clear hE a; intro a hE
    refine s_conv hE rfl (cnv_int Try.underlying5 Try.underlying24 (wrap_u64 (by omega) (by have := (bs.getD i 0 : UInt8).toNat_lt; omega))) rfl ?_; clear hE a; intro a hE
    refine s_bin hE rfl rfl (show Bin _ _ _ _ _ (.int .u64 (((256 * (val (bs.take i))) + ((bs.getD i 0).toNat) : Nat) : Int)) from bin_add (by rw [wrap_u64 (by omega) (by omega)]; omega)) rfl ?_; clear hE a; intro a hE
    refine s_assign hE rfl rfl ?_; clear hE a; intro a hE
    refine q_nil ?_
    replace hE : Env a 20 [(0, _), (2, _), (3, _), (4, _), (8, _)] := hE.sel [0, 2, 3, 4, 8] rfl
    refine q_block_n ?_
    refine hK7 _ _ ?_
    refine wp_plain [true, true, true] rfl rfl ?_
    refine s_move hE rfl rfl ?_; clear hE a; intro a hE
    refine s_bin hE rfl rfl (show Bin _ _ _ _ _ (.int .i64 ((i + 1 : Nat) : Int)) from bin_add (by rw [wrap_i64 (by omega) (by omega)]; omega)) rfl ?_; clear hE a; intro a hE
    refine s_assign hE rfl rfl ?_; clear hE a; intro a hE
    refine q_nil ?_
    replace hE : Env a 20 [(0, _), (2, _), (3, _), (4, _), (8, _)] := hE.sel [0, 2, 3, 4, 8] rfl
    replace hE := hE.cast 3 rfl (show _ = Value.int .u64 ((val (bs.take (i + 1)) : Nat) : Int) from (congrArg (fun n : Nat => Value.int .u64 (n : Int)) (by rw [val_take_succ (by omega)]; omega)))
    replace hE := hE.cast 4 rfl (show _ = Value.int .i64 (((i + 1) : Nat) : Int) from (congrArg _ (by omega)))
    replace hM : Mem _ _ w1 [_] := hM.pick [0] rfl
    exact ⟨i + 1, ⟨by omega, hE.sel [0, 2, 3, 4] rfl, hM⟩, by omega⟩
  · replace hE := hE'; clear hE'
    replace hb8 := of_decide_eq_false hb8
    replace hb8 : ¬ (i < bs.length) := by omega
    obtain rfl : bs.length = i := by omega
    refine wp_cond_false (hE.eval rfl) ?_
    refine wp_exit ?_
    refine q_then_e ?_
    refine q_then_e ?_
    refine q_block_x ?_
    refine hK3 _ _ ?_
    refine wp_seq_k (fun K7 hK7 => ?_)
    refine wp_plain [true, true] rfl rfl ?_
    refine s_move hE rfl rfl ?_; clear hE a; intro a hE
    refine s_assign hE rfl rfl ?_; clear hE a; intro a hE
    refine q_nil ?_
    replace hE : Env a 20 [(0, _), (2, _), (3, _), (4, _), (8, _)] := hE.sel [0, 2, 3, 4, 8] rfl
    refine hK7 _ _ ?_
    refine wp_ret ?_
    refine f_ret1 hE rfl rfl ?_
    exact ⟨(by rw [List.take_length]), hM.pick [] rfl⟩
theorem rtag21_c (t : List UInt8) (w : World) (hl_t : t.length = 32) : Calls Try.prog 55 #[.agg (bv t).toArray] w fun e w' => ∃ v', e = .returned (v') ∧ Mem w [] w' [own v' 1 t.length (bv t)] := by
  have hM := Mem.start0 w
  refine f_enter 16 Try.func55 rfl rfl rfl ?_
  intro a hE
  replace hE : Env a 16 [(0, _)] := hE
  refine wp_seq_k (fun K1 hK1 => ?_)
  refine wp_plain [false, true] rfl rfl ?_
  refine s_box (ss := [bv t]) [32] hE hM rfl (by simp [Value.cells]) (by simp [*]) rfl ?_; clear hE a; intro a b1 w1 hE hM'
  clear hM; have hM := hM'; clear hM'
  refine s_assign hE rfl rfl ?_; clear hE a; intro a hE
  refine q_nil ?_
  replace hE : Env a 16 [(1, _), (2, _)] := hE.sel [1, 2] rfl
  refine hK1 _ _ ?_
  refine wp_seq_k (fun K2 hK2 => ?_)
  refine wp_plain [true] rfl rfl ?_
  refine s_assign hE rfl rfl ?_; clear hE a; intro a hE
  refine q_nil ?_
  refine hK2 _ _ ?_
  refine wp_seq_k (fun K3 hK3 => ?_)
  refine wp_seq_k (fun K4 hK4 => ?_)
  refine wp_plain [true] rfl rfl ?_
  refine s_assign hE rfl rfl ?_; clear hE a; intro a hE
  refine q_nil ?_
  refine hK4 _ _ ?_
  refine wp_block ?_
  replace hM := hM.addNil 1
  replace hM := hM.ownEq (m' := ([] : List UInt8).length) (cs' := bv []) rfl rfl
  replace hM := Mem.ownB (p := ([] : List UInt8)) (q := t.take 0) hM (by first | with_reducible rfl | (simp; done) | (simp [*]; done) | rfl)
  refine c_loop (fun (i : Nat) a w' => i ≤ 32 ∧ ∃ vl3, Env a 16 [(1, .pointer (some ⟨b1, 0, none⟩)), (2, .slice none 0 0), (3, vl3), (4, .int .i64 ((i : Nat) : Int))] ∧ Mem w [] w' [own vl3 1 (t.take i).length (bv (t.take i)), blk b1 [bv t] [32] 27]) (fun i => 32 - i) 0 ⟨Nat.zero_le _, _, hE.sel [1, 2, 3, 4] rfl, hM⟩ ?_
  clear hE hM a; rintro i a w2 ⟨hi, vl3, hE, hM⟩
  refine wp_seq_k (fun K5 hK5 => ?_)
  refine wp_seq_k (fun K6 hK6 => ?_)
  refine wp_plain [true, true] rfl rfl ?_
  refine s_move hE rfl rfl ?_; clear hE a; intro a hE
  refine s_bin hE rfl rfl bin_lss rfl ?_; clear hE a; intro a hE
  refine q_nil ?_
  replace hE : Env a 16 [(1, _), (2, _), (3, _), (4, _), (6, _)] := hE.sel [1, 2, 3, 4, 6] rfl
  refine hK6 _ _ ?_
  refine hE.split 6 rfl (fun hb6 hE' => ?_) (fun hb6 hE' => ?_)
  · replace hE := hE'; clear hE'
    replace hb6 := of_decide_eq_true hb6
    replace hb6 : i < 32 := by omega
    replace hb6 : i < 32 := by omega
    refine wp_cond_true (hE.eval rfl) ?_
    refine wp_skip ?_
    refine hK5 _ _ ?_
    refine wp_seq_k (fun K7 hK7 => ?_)
    refine wp_block ?_
    refine wp_plain [true, true, true, true, false, false, true] rfl rfl ?_
    refine s_move hE rfl rfl ?_; clear hE a; intro a hE
    refine s_move hE rfl rfl ?_; clear hE a; intro a hE
    refine s_indexArr (j := i) hE rfl rfl arr27 (by first | rfl | omega) (by first | omega | decide) rfl ?_; clear hE a; intro a hE
    refine s_loadIdx (j := i) hE rfl (by omega) (hM.get 1 rfl) (bv_get (by have hl_ : t.length = 32 := hl_t; first | omega | (rw [bv_length]; omega) | (simp; omega))) one5 (by intro X h; cases h) rfl ?_; clear hE a; intro a hE
    refine s_buildSlice (xs := [.tmp 12]) (bv [t.getD i 0]) hE hM sl55 rfl rfl rfl (by intro v hv; first | (cases hv; done) | (obtain ⟨x, _, rfl⟩ := List.mem_map.1 (show v ∈ bv [t.getD i 0] from hv); rfl)) rfl rfl rfl rfl ?_; clear hE a; intro a v13 w3 hE hM'
    clear hM; have hM := hM'; clear hM'
    replace hM := hM.ownEq (m' := [t.getD i 0].length) (cs' := bv [t.getD i 0]) rfl rfl
    replace hM : Mem _ _ w3 [_, _, _] := hM.pick [1, 0, 2] rfl
    obtain ⟨cq1, hq1⟩ := own_rd (hM.get 1 rfl)
    refine s_append hE rfl rfl hM sl55 (Src.rd Try.underlying55 hq1 (bv_one _)) (len47 (by have hl_x : (t.take i).length = i := (by simp; omega); have hl_y : [t.getD i 0].length = 1 := (by first | (simp; done) | (simp [*]; done) | (simp; omega)); first | omega | (simp; done) | (simp; omega))) (by have hl_x : (t.take i).length = i := (by simp; omega); have hl_y : [t.getD i 0].length = 1 := (by first | (simp; done) | (simp [*]; done) | (simp; omega)); first | omega | (simp; done) | (simp; omega)) (by intro X h; cases h) rfl ?_; clear hE a; intro a v14 w4 hE hM'; clear hM; have hM := hM'; clear hM'
    replace hM := Mem.ownApp (p := t.take i) (q := [t.getD i 0]) hM (by first | rfl | (simp; done))
    replace hM : Mem _ _ w4 [_, _] := hM.pick [0, 2] rfl
    refine s_assign hE rfl rfl ?_; clear hE a; intro a hE
    refine q_nil ?_
    replace hE : Env a 16 [(1, _), (2, _), (3, _), (4, _), (6, _)] := hE.sel [1, 2, 3, 4, 6] rfl
    refine q_block_n ?_
    refine hK7 _ _ ?_
    refine wp_plain [true, true, true] rfl rfl ?_
    refine s_move hE rfl rfl ?_; clear hE a; intro a hE
    refine s_bin hE rfl rfl (show Bin _ _ _ _ _ (.int .i64 ((i + 1 : Nat) : Int)) from bin_add (by rw [wrap_i64 (by omega) (by omega)]; omega)) rfl ?_; clear hE a; intro a hE
    refine s_assign hE rfl rfl ?_; clear hE a; intro a hE
    refine q_nil ?_
    replace hE : Env a 16 [(1, _), (2, _), (3, _), (4, _), (6, _)] := hE.sel [1, 2, 3, 4, 6] rfl
    replace hE := hE.cast 4 rfl (show _ = Value.int .i64 (((i + 1) : Nat) : Int) from (congrArg _ (by omega)))
    replace hM := Mem.ownB (p := (t.take i) ++ [t.getD i 0]) (q := t.take (i + 1)) hM ((take_snoc (by omega)).symm)
    replace hM : Mem _ _ w4 [_, _] := hM.pick [0, 1] rfl
    exact ⟨i + 1, ⟨by omega, _, hE.sel [1, 2, 3, 4] rfl, hM⟩, by omega⟩
  · replace hE := hE'; clear hE'
    replace hb6 := of_decide_eq_false hb6
    replace hb6 : ¬ (i < 32) := by omega
    obtain rfl : 32 = i := by omega
    replace hM := Mem.ownB (p := t.take 32) (q := t) hM (take_all hl_t)
    refine wp_cond_false (hE.eval rfl) ?_
    refine wp_exit ?_
    refine q_then_e ?_
    refine q_then_e ?_
    refine q_block_x ?_
    refine hK3 _ _ ?_
    refine wp_seq_k (fun K7 hK7 => ?_)
    refine wp_plain [true, true] rfl rfl ?_
    refine s_move hE rfl rfl ?_; clear hE a; intro a hE
    refine s_assign hE rfl rfl ?_; clear hE a; intro a hE
    refine q_nil ?_
    replace hE : Env a 16 [(1, _), (2, _), (3, _), (4, _), (6, _)] := hE.sel [1, 2, 3, 4, 6] rfl
    refine hK7 _ _ ?_
    refine wp_ret ?_
    refine f_ret1 hE rfl rfl ?_
    exact ⟨_, (by first | rfl | (simp; done)), hM.pick [0] rfl⟩
theorem rtagof_c (v : Value) (bs : List UInt8) (c : Nat) (w : World) (hr_bs : (rd v 1 bs.length c (bv bs)).holds w) (hl : bs.length = 32) : Calls Try.prog 59 #[v] w fun e w' => e = .returned (.agg (bv bs).toArray) ∧ Mem w [] w' [] := by
  have hM : Mem w [] w [rd v 1 bs.length c (bv bs)] := Mem.startR w (fun g hg => by
    simp only [List.mem_cons, List.not_mem_nil, or_false] at hg
    rcases hg with rfl
    · exact ⟨hr_bs, rfl⟩)
  refine f_enter 16 Try.func59 rfl rfl rfl ?_
  intro a hE
  replace hE : Env a 16 [(0, _)] := hE
  refine wp_seq_k (fun K1 hK1 => ?_)
  refine wp_plain [false] rfl rfl ?_
  refine s_alloc [32] hE hM zero27 rfl rfl ?_; clear hE a; intro a b2 w1 hE hM'
  clear hM; have hM := hM'; clear hM'
  refine q_nil ?_
  refine hK1 _ _ ?_
  refine wp_seq_k (fun K2 hK2 => ?_)
  refine wp_plain [false] rfl rfl ?_
  refine s_alloc [32] hE hM zero27 rfl rfl ?_; clear hE a; intro a b3 w2 hE hM'
  clear hM; have hM := hM'; clear hM'
  refine q_nil ?_
  refine hK2 _ _ ?_
  refine wp_seq_k (fun K3 hK3 => ?_)
  refine wp_seq_k (fun K4 hK4 => ?_)
  refine wp_plain [true] rfl rfl ?_
  refine s_assign hE rfl rfl ?_; clear hE a; intro a hE
  refine q_nil ?_
  refine hK4 _ _ ?_
  refine wp_block ?_
  replace hM := Mem.blkB (p := List.replicate 32 (0 : UInt8)) (q := bs.take 0 ++ List.replicate (32 - 0) 0) hM cpy_zero
  refine c_loop (fun (i : Nat) a w' => i ≤ 32 ∧ Env a 16 [(0, v), (2, .pointer (some ⟨b2, 0, none⟩)), (3, .pointer (some ⟨b3, 0, none⟩)), (4, .int .i64 ((i : Nat) : Int))] ∧ Mem w [] w' [blk b3 [bv (bs.take i ++ List.replicate (32 - i) 0)] [32] 27, blk b2 [bv (List.replicate 32 (0 : UInt8))] [32] 27, rd v 1 bs.length c (bv bs)]) (fun i => 32 - i) 0 ⟨Nat.zero_le _, hE.sel [0, 2, 3, 4] rfl, hM⟩ ?_
  clear hE hM a; rintro i a w3 ⟨hi, hE, hM⟩
  refine wp_seq_k (fun K5 hK5 => ?_)
  refine wp_seq_k (fun K6 hK6 => ?_)
  refine wp_plain [true, true] rfl rfl ?_
  refine s_move hE rfl rfl ?_; clear hE a; intro a hE
  refine s_bin hE rfl rfl bin_lss rfl ?_; clear hE a; intro a hE
  refine q_nil ?_
  replace hE : Env a 16 [(0, _), (2, _), (3, _), (4, _), (6, _)] := hE.sel [0, 2, 3, 4, 6] rfl
  refine hK6 _ _ ?_
  refine hE.split 6 rfl (fun hb6 hE' => ?_) (fun hb6 hE' => ?_)
  · replace hE := hE'; clear hE'
    replace hb6 := of_decide_eq_true hb6
    replace hb6 : i < 32 := by omega
    replace hb6 : i < 32 := by omega
    refine wp_cond_true (hE.eval rfl) ?_
    refine wp_skip ?_
    refine hK5 _ _ ?_
    refine wp_seq_k (fun K7 hK7 => ?_)
    refine wp_block ?_
    refine wp_plain [true, true, true, true, true, true, false] rfl rfl ?_
    refine s_move hE rfl rfl ?_; clear hE a; intro a hE
    refine s_move hE rfl rfl ?_; clear hE a; intro a hE
    refine s_move hE rfl rfl ?_; clear hE a; intro a hE
    refine s_indexRd (j := i) hE rfl (hM.get 2 rfl) rfl slt55 (by first | rfl | omega) (by first | omega | (rw [bv_length]; omega) | (simp; omega)) rfl ?_; clear hE a; intro a p12 hE hc12 hp12
    rw [bv_elem (by first | omega | (rw [bv_length]; omega) | (simp; omega))] at hc12
    refine s_loadAt1 hE rfl hc12 one5 (by intro X h; cases h) rfl ?_; clear hE a; intro a hE
    refine s_indexArr (j := i) hE rfl rfl arr27 (by first | rfl | omega) (by first | omega | decide) rfl ?_; clear hE a; intro a hE
    refine s_storeIdx (j := i) hE rfl (by omega) rfl hM rfl rfl sz5 (by have hl_ : (bs.take i ++ List.replicate (32 - i) 0).length = 32 := (cpy_len hl (by omega)); first | omega | (rw [bv_length]; omega) | (simp; omega)) (by intro X h; cases h) ?_; intro w4 hM'; clear hM; have hM := hM'; clear hM'
    first | rw [bv_set'] at hM | rw [bv_setI] at hM
    refine q_nil ?_
    replace hE : Env a 16 [(0, _), (2, _), (3, _), (4, _), (6, _)] := hE.sel [0, 2, 3, 4, 6] rfl
    refine q_block_n ?_
    refine hK7 _ _ ?_
    refine wp_plain [true, true, true] rfl rfl ?_
    refine s_move hE rfl rfl ?_; clear hE a; intro a hE
    refine s_bin hE rfl rfl (show Bin _ _ _ _ _ (.int .i64 ((i + 1 : Nat) : Int)) from bin_add (by rw [wrap_i64 (by omega) (by omega)]; omega)) rfl ?_; clear hE a; intro a hE
    refine s_assign hE rfl rfl ?_; clear hE a; intro a hE
    refine q_nil ?_
    replace hE : Env a 16 [(0, _), (2, _), (3, _), (4, _), (6, _)] := hE.sel [0, 2, 3, 4, 6] rfl
    replace hE := hE.cast 4 rfl (show _ = Value.int .i64 (((i + 1) : Nat) : Int) from (congrArg _ (by omega)))
    replace hM := Mem.blkB (p := (bs.take i ++ List.replicate (32 - i) 0).set i (bs.getD i 0)) (q := bs.take (i + 1) ++ List.replicate (32 - (i + 1)) 0) hM (cpy_set (by omega) hl)
    replace hM : Mem _ _ w4 [_, _, _] := hM.pick [0, 1, 2] rfl
    exact ⟨i + 1, ⟨by omega, hE.sel [0, 2, 3, 4] rfl, hM⟩, by omega⟩
  · replace hE := hE'; clear hE'
    replace hb6 := of_decide_eq_false hb6
    replace hb6 : ¬ (i < 32) := by omega
    obtain rfl : 32 = i := by omega
    replace hM := Mem.blkB (p := bs.take 32 ++ List.replicate (32 - 32) 0) (q := bs) hM (cpy_end hl)
    refine wp_cond_false (hE.eval rfl) ?_
    refine wp_exit ?_
    refine q_then_e ?_
    refine q_then_e ?_
    refine q_block_x ?_
    refine hK3 _ _ ?_
    refine wp_seq_k (fun K7 hK7 => ?_)
    refine wp_plain [true, false] rfl rfl ?_
    refine s_loadN hE rfl (hM.get 0 rfl) row27 rfl (by intro X h; cases h) rfl ?_; clear hE a; intro a hE
    replace hM : Mem _ _ w3 [_, _, _] := hM.pick [1, 0, 2] rfl
    refine s_storeSeg 0 hE rfl rfl hM rfl sz27 ((bv_length _).trans hl) (bv_one _) rfl ((bv_length _).trans (by first | (simp; done) | (simp [*]; done) | (simp; omega))) rfl (by intro X h; cases h) ?_; intro w4 hM'; clear hM; have hM := hM'; clear hM'
    simp only [List.set_cons_zero, List.set_cons_succ] at hM
    refine q_nil ?_
    replace hE : Env a 16 [(0, _), (2, _), (3, _), (4, _), (6, _)] := hE.sel [0, 2, 3, 4, 6] rfl
    refine hK7 _ _ ?_
    refine wp_ret ?_
    refine f_ret1 hE rfl (res_cellN rfl (hM.get 0 rfl) row27 rfl) ?_
    exact ⟨(by first | rfl | (simp; done)), hM.pick [] rfl⟩
theorem putroot_c (rc : Nat) (rt : List UInt8) (rh : List UInt8) (rb : List UInt8) (rm : Nat) (ry : Nat) (w : World) (hl_rt : rt.length = 32) (hl_rh : rh.length = 32) (hl_rb : rb.length = 32) (h1 : rc ≤ 4611686018427387904) (h2 : rm ≤ 2147483647) (h3 : ry ≤ 2147483647) : Calls Try.prog 26 #[.agg ([[.int .u64 ((rc : Nat) : Int)], bv rt, bv rh, bv rb, [.int .i64 ((rm : Nat) : Int)], [.int .i64 ((ry : Nat) : Int)]] : List (List Value)).flatten.toArray] w fun e w' => ∃ v', e = .returned (.tuple #[v', .int .i64 0]) ∧ Mem w [] w' [own v' 1 (rootB rc rt rh rb rm ry).length (bv (rootB rc rt rh rb rm ry))] := by
  have hM := Mem.start0 w
  refine f_enter 51 Try.func26 rfl rfl rfl ?_
  intro a hE
  replace hE : Env a 51 [(0, _)] := hE
  refine wp_seq_k (fun K1 hK1 => ?_)
  refine wp_plain [false, true, true] rfl rfl ?_
  refine s_box (ss := [[.int .u64 ((rc : Nat) : Int)], bv rt, bv rh, bv rb, [.int .i64 ((rm : Nat) : Int)], [.int .i64 ((ry : Nat) : Int)]]) [1, 32, 32, 32, 1, 1] hE hM rfl rfl (by simp [*]) rfl ?_; clear hE a; intro a b1 w1 hE hM'
  clear hM; have hM := hM'; clear hM'
  refine s_assign hE rfl rfl ?_; clear hE a; intro a hE
  refine s_assign hE rfl rfl ?_; clear hE a; intro a hE
  refine q_nil ?_
  replace hE : Env a 51 [(1, _), (2, _), (3, _)] := hE.sel [1, 2, 3] rfl
  refine hK1 _ _ ?_
  refine wp_seq_k (fun K2 hK2 => ?_)
  refine wp_seq_k (fun K3 hK3 => ?_)
  refine wp_plain [true, false, true] rfl rfl ?_
  refine s_loadN hE rfl (hM.get 0 rfl) row67 rfl (by intro X h; cases h) rfl ?_; clear hE a; intro a hE
  replace hE := hE.cast 6 rfl (show _ = Value.agg ([[.int .u64 ((rc : Nat) : Int)], bv rt, bv rh, bv rb, [.int .i64 ((rm : Nat) : Int)], [.int .i64 ((ry : Nat) : Int)]] : List (List Value)).flatten.toArray from (by first | rfl | simp))
  refine s_call hE rfl Try.call51 (root_c rc rt rh rb ((rm : Nat) : Int) ((ry : Nat) : Int) _ hl_rt hl_rh hl_rb) rfl ?_
  rintro e w2 ⟨rfl, hN⟩
  refine ⟨_, rfl, trivial, ?_⟩; clear hE a; intro a hE
  replace hM : Mem _ _ w2 [_] := hM.call0 hN trivial; clear hN
  refine s_not hE rfl rfl ?_; clear hE a; intro a hE
  refine q_nil ?_
  replace hE : Env a 51 [(1, _), (2, _), (3, _), (8, _)] := hE.sel [1, 2, 3, 8] rfl
  refine hK3 _ _ ?_
  replace hE := hE.cast 8 rfl (show _ = Value.bool false from (congrArg Value.bool (by simp [rootOk, numB]; omega)))
  refine wp_cond_false (hE.eval rfl) ?_
  refine wp_skip ?_
  refine hK2 _ _ ?_
  refine wp_seq_k (fun K4 hK4 => ?_)
  refine wp_plain [false, false, true, true, false, true, true, true, true, true] rfl rfl ?_
  refine s_buildSlice (xs := [.const (.int .u8 67), .const (.int .u8 65), .const (.int .u8 83), .const (.int .u8 69), .const (.int .u8 82), .const (.int .u8 79), .const (.int .u8 79), .const (.int .u8 84)]) (bv [67, 65, 83, 69, 82, 79, 79, 84]) hE hM sl55 rfl rfl rfl (by intro v hv; first | (cases hv; done) | (obtain ⟨x, _, rfl⟩ := List.mem_map.1 (show v ∈ bv [67, 65, 83, 69, 82, 79, 79, 84] from hv); rfl)) rfl rfl rfl rfl ?_; clear hE a; intro a v10 w3 hE hM'
  clear hM; have hM := hM'; clear hM'
  replace hM := hM.ownEq (m' := [67, 65, 83, 69, 82, 79, 79, 84].length) (cs' := bv [67, 65, 83, 69, 82, 79, 79, 84]) rfl rfl
  refine s_convSame hE rfl hM Try.underlying55 Try.underlying5 (by have hl_ : [67, 65, 83, 69, 82, 79, 79, 84].length = 8 := (by first | (simp; done) | (simp [*]; done) | (simp; omega)); first | omega | decide | (simp; done) | (simp; omega)) (by intro X h; cases h) rfl ?_; clear hE a; intro a w4 hE hM'; clear hM; have hM := hM'; clear hM'
  refine s_fieldAddr hE rfl fo67_0 rfl ?_; clear hE a; intro a hE
  refine s_load1 hE rfl (hM.get 1 rfl) rfl one24 (by intro X h; cases h) rfl ?_; clear hE a; intro a hE
  obtain ⟨cq1, hq1⟩ := own_rd (hM.get 0 rfl)
  refine s_call hE rfl Try.call52 (num_fit [67, 65, 83, 69, 82, 79, 79, 84] _ _ 8 rc _ hq1 rfl (.inl (by decide)) (by have hl_ : [67, 65, 83, 69, 82, 79, 79, 84].length = 8 := (by first | (simp; done) | (simp [*]; done) | (simp; omega)); first | omega | (simp; done) | (simp; omega))) rfl ?_
  rintro e w5 ⟨v14, rfl, hN⟩
  refine ⟨_, rfl, trivial, ?_⟩; clear hE a; intro a hE
  replace hM : Mem _ _ w5 [_, _, _] := hM.call0 hN ⟨rfl, trivial⟩; clear hN
  refine s_move hE rfl rfl ?_; clear hE a; intro a hE
  refine s_extract hE rfl rfl rfl ?_; clear hE a; intro a hE
  refine s_extract hE rfl rfl rfl ?_; clear hE a; intro a hE
  refine s_assign hE rfl rfl ?_; clear hE a; intro a hE
  refine s_assign hE rfl rfl ?_; clear hE a; intro a hE
  refine q_nil ?_
  replace hE : Env a 51 [(1, _), (2, _), (3, _), (4, _), (8, _)] := hE.sel [1, 2, 3, 4, 8] rfl
  refine hK4 _ _ ?_
  refine wp_seq_k (fun K5 hK5 => ?_)
  refine wp_plain [true, true, true, false, true] rfl rfl ?_
  refine s_move hE rfl rfl ?_; clear hE a; intro a hE
  refine s_fieldAddr hE rfl fo67_1 rfl ?_; clear hE a; intro a hE
  refine s_sliceArr (l := 0) (h := 32) (mx' := 32) hE rfl arr27 rfl rfl rfl (by simp) (by omega) (by omega) (by omega) rfl ?_; clear hE a; intro a hE
  replace hE := hE.cast 19 rfl (show _ = Value.slice (some ⟨b1, 1, none⟩) 32 32 from rfl)
  refine s_append hE rfl rfl hM sl55 (Src.rd Try.underlying55 (rd_seg8 (N := 32) (hM.get 2 rfl) rfl hl_rt) (bv_one _)) (len47 (by have hl_x : ([67, 65, 83, 69, 82, 79, 79, 84] ++ (laid 8 rc)).length = 8 + 8 := (by have hl_p : [67, 65, 83, 69, 82, 79, 79, 84].length = 8 := (by first | (simp; done) | (simp [*]; done) | (simp; omega)); have hl_q : (laid 8 rc).length = 8 := (by simp); rw [List.length_append]; omega); have hl_y : rt.length = 32 := hl_rt; first | omega | (simp; done) | (simp; omega))) (by have hl_x : ([67, 65, 83, 69, 82, 79, 79, 84] ++ (laid 8 rc)).length = 8 + 8 := (by have hl_p : [67, 65, 83, 69, 82, 79, 79, 84].length = 8 := (by first | (simp; done) | (simp [*]; done) | (simp; omega)); have hl_q : (laid 8 rc).length = 8 := (by simp); rw [List.length_append]; omega); have hl_y : rt.length = 32 := hl_rt; first | omega | (simp; done) | (simp; omega)) (by intro X h; cases h) rfl ?_; clear hE a; intro a v20 w6 hE hM'; clear hM; have hM := hM'; clear hM'
  replace hM := Mem.ownApp (p := [67, 65, 83, 69, 82, 79, 79, 84] ++ (laid 8 rc)) (q := rt) hM (by first | rfl | (simp; done))
  refine s_assign hE rfl rfl ?_; clear hE a; intro a hE
  refine q_nil ?_
  replace hE : Env a 51 [(1, _), (2, _), (3, _), (4, _), (8, _)] := hE.sel [1, 2, 3, 4, 8] rfl
  refine hK5 _ _ ?_
  refine wp_seq_k (fun K6 hK6 => ?_)
  refine wp_plain [true, true, true, false, true] rfl rfl ?_
  refine s_move hE rfl rfl ?_; clear hE a; intro a hE
  refine s_fieldAddr hE rfl fo67_2 rfl ?_; clear hE a; intro a hE
  refine s_sliceArr (l := 0) (h := 32) (mx' := 32) hE rfl arr27 rfl rfl rfl (by simp) (by omega) (by omega) (by omega) rfl ?_; clear hE a; intro a hE
  replace hE := hE.cast 23 rfl (show _ = Value.slice (some ⟨b1, 33, none⟩) 32 32 from rfl)
  refine s_append hE rfl rfl hM sl55 (Src.rd Try.underlying55 (rd_seg8 (N := 32) (hM.get 2 rfl) rfl hl_rh) (bv_one _)) (len47 (by have hl_x : (([67, 65, 83, 69, 82, 79, 79, 84] ++ (laid 8 rc)) ++ rt).length = 8 + 8 + 32 := (by have hl_p : ([67, 65, 83, 69, 82, 79, 79, 84] ++ (laid 8 rc)).length = 8 + 8 := (by have hl_p : [67, 65, 83, 69, 82, 79, 79, 84].length = 8 := (by first | (simp; done) | (simp [*]; done) | (simp; omega)); have hl_q : (laid 8 rc).length = 8 := (by simp); rw [List.length_append]; omega); have hl_q : rt.length = 32 := hl_rt; rw [List.length_append]; omega); have hl_y : rh.length = 32 := hl_rh; first | omega | (simp; done) | (simp; omega))) (by have hl_x : (([67, 65, 83, 69, 82, 79, 79, 84] ++ (laid 8 rc)) ++ rt).length = 8 + 8 + 32 := (by have hl_p : ([67, 65, 83, 69, 82, 79, 79, 84] ++ (laid 8 rc)).length = 8 + 8 := (by have hl_p : [67, 65, 83, 69, 82, 79, 79, 84].length = 8 := (by first | (simp; done) | (simp [*]; done) | (simp; omega)); have hl_q : (laid 8 rc).length = 8 := (by simp); rw [List.length_append]; omega); have hl_q : rt.length = 32 := hl_rt; rw [List.length_append]; omega); have hl_y : rh.length = 32 := hl_rh; first | omega | (simp; done) | (simp; omega)) (by intro X h; cases h) rfl ?_; clear hE a; intro a v24 w7 hE hM'; clear hM; have hM := hM'; clear hM'
  replace hM := Mem.ownApp (p := ([67, 65, 83, 69, 82, 79, 79, 84] ++ (laid 8 rc)) ++ rt) (q := rh) hM (by first | rfl | (simp; done))
  refine s_assign hE rfl rfl ?_; clear hE a; intro a hE
  refine q_nil ?_
  replace hE : Env a 51 [(1, _), (2, _), (3, _), (4, _), (8, _)] := hE.sel [1, 2, 3, 4, 8] rfl
  refine hK6 _ _ ?_
  refine wp_seq_k (fun K7 hK7 => ?_)
  refine wp_plain [true, true, true, false, true] rfl rfl ?_
  refine s_move hE rfl rfl ?_; clear hE a; intro a hE
  refine s_fieldAddr hE rfl fo67_3 rfl ?_; clear hE a; intro a hE
  refine s_sliceArr (l := 0) (h := 32) (mx' := 32) hE rfl arr27 rfl rfl rfl (by simp) (by omega) (by omega) (by omega) rfl ?_; clear hE a; intro a hE
  replace hE := hE.cast 27 rfl (show _ = Value.slice (some ⟨b1, 65, none⟩) 32 32 from rfl)
  refine s_append hE rfl rfl hM sl55 (Src.rd Try.underlying55 (rd_seg8 (N := 32) (hM.get 2 rfl) rfl hl_rb) (bv_one _)) (len47 (by have hl_x : ((([67, 65, 83, 69, 82, 79, 79, 84] ++ (laid 8 rc)) ++ rt) ++ rh).length = 8 + 8 + 32 + 32 := (by have hl_p : (([67, 65, 83, 69, 82, 79, 79, 84] ++ (laid 8 rc)) ++ rt).length = 8 + 8 + 32 := (by have hl_p : ([67, 65, 83, 69, 82, 79, 79, 84] ++ (laid 8 rc)).length = 8 + 8 := (by have hl_p : [67, 65, 83, 69, 82, 79, 79, 84].length = 8 := (by first | (simp; done) | (simp [*]; done) | (simp; omega)); have hl_q : (laid 8 rc).length = 8 := (by simp); rw [List.length_append]; omega); have hl_q : rt.length = 32 := hl_rt; rw [List.length_append]; omega); have hl_q : rh.length = 32 := hl_rh; rw [List.length_append]; omega); have hl_y : rb.length = 32 := hl_rb; first | omega | (simp; done) | (simp; omega))) (by have hl_x : ((([67, 65, 83, 69, 82, 79, 79, 84] ++ (laid 8 rc)) ++ rt) ++ rh).length = 8 + 8 + 32 + 32 := (by have hl_p : (([67, 65, 83, 69, 82, 79, 79, 84] ++ (laid 8 rc)) ++ rt).length = 8 + 8 + 32 := (by have hl_p : ([67, 65, 83, 69, 82, 79, 79, 84] ++ (laid 8 rc)).length = 8 + 8 := (by have hl_p : [67, 65, 83, 69, 82, 79, 79, 84].length = 8 := (by first | (simp; done) | (simp [*]; done) | (simp; omega)); have hl_q : (laid 8 rc).length = 8 := (by simp); rw [List.length_append]; omega); have hl_q : rt.length = 32 := hl_rt; rw [List.length_append]; omega); have hl_q : rh.length = 32 := hl_rh; rw [List.length_append]; omega); have hl_y : rb.length = 32 := hl_rb; first | omega | (simp; done) | (simp; omega)) (by intro X h; cases h) rfl ?_; clear hE a; intro a v28 w8 hE hM'; clear hM; have hM := hM'; clear hM'
  replace hM := Mem.ownApp (p := (([67, 65, 83, 69, 82, 79, 79, 84] ++ (laid 8 rc)) ++ rt) ++ rh) (q := rb) hM (by first | rfl | (simp; done))
  refine s_assign hE rfl rfl ?_; clear hE a; intro a hE
  refine q_nil ?_
  replace hE : Env a 51 [(1, _), (2, _), (3, _), (4, _), (8, _)] := hE.sel [1, 2, 3, 4, 8] rfl
  refine hK7 _ _ ?_
  refine wp_seq_k (fun K8 hK8 => ?_)
  refine wp_plain [true, true, true, true, false, true, true, true, true] rfl rfl ?_
  refine s_move hE rfl rfl ?_; clear hE a; intro a hE
  refine s_fieldAddr hE rfl fo67_4 rfl ?_; clear hE a; intro a hE
  refine s_load1 hE rfl (hM.get 2 rfl) rfl one3 (by intro X h; cases h) rfl ?_; clear hE a; intro a hE
  refine s_conv hE rfl (cnv_int Try.underlying3 Try.underlying24 (wrap_u64 (by omega) (by omega))) rfl ?_; clear hE a; intro a hE
  obtain ⟨cq2, hq2⟩ := own_rd (hM.get 0 rfl)
  refine s_call hE rfl Try.call52 (num_fit (((([67, 65, 83, 69, 82, 79, 79, 84] ++ (laid 8 rc)) ++ rt) ++ rh) ++ rb) _ _ 4 rm _ hq2 rfl (.inr (by first | omega | (simp; omega))) (by have hl_ : (((([67, 65, 83, 69, 82, 79, 79, 84] ++ (laid 8 rc)) ++ rt) ++ rh) ++ rb).length = 8 + 8 + 32 + 32 + 32 := (by have hl_p : ((([67, 65, 83, 69, 82, 79, 79, 84] ++ (laid 8 rc)) ++ rt) ++ rh).length = 8 + 8 + 32 + 32 := (by have hl_p : (([67, 65, 83, 69, 82, 79, 79, 84] ++ (laid 8 rc)) ++ rt).length = 8 + 8 + 32 := (by have hl_p : ([67, 65, 83, 69, 82, 79, 79, 84] ++ (laid 8 rc)).length = 8 + 8 := (by have hl_p : [67, 65, 83, 69, 82, 79, 79, 84].length = 8 := (by first | (simp; done) | (simp [*]; done) | (simp; omega)); have hl_q : (laid 8 rc).length = 8 := (by simp); rw [List.length_append]; omega); have hl_q : rt.length = 32 := hl_rt; rw [List.length_append]; omega); have hl_q : rh.length = 32 := hl_rh; rw [List.length_append]; omega); have hl_q : rb.length = 32 := hl_rb; rw [List.length_append]; omega); first | omega | (simp; done) | (simp; omega))) rfl ?_
  rintro e w9 ⟨v34, rfl, hN⟩
  refine ⟨_, rfl, trivial, ?_⟩; clear hE a; intro a hE
  replace hM : Mem _ _ w9 [_, _, _, _] := hM.call0 hN ⟨rfl, trivial⟩; clear hN
  refine s_move hE rfl rfl ?_; clear hE a; intro a hE
  refine s_extract hE rfl rfl rfl ?_; clear hE a; intro a hE
  refine s_extract hE rfl rfl rfl ?_; clear hE a; intro a hE
  refine s_assign hE rfl rfl ?_; clear hE a; intro a hE
  refine q_nil ?_
  replace hE : Env a 51 [(1, _), (2, _), (3, _), (4, _), (8, _)] := hE.sel [1, 2, 3, 4, 8] rfl
  refine hK8 _ _ ?_
  refine wp_seq_k (fun K9 hK9 => ?_)
  refine wp_plain [true, true, true, true, false, true, true, true, true] rfl rfl ?_
  refine s_move hE rfl rfl ?_; clear hE a; intro a hE
  refine s_fieldAddr hE rfl fo67_5 rfl ?_; clear hE a; intro a hE
  refine s_load1 hE rfl (hM.get 3 rfl) rfl one3 (by intro X h; cases h) rfl ?_; clear hE a; intro a hE
  refine s_conv hE rfl (cnv_int Try.underlying3 Try.underlying24 (wrap_u64 (by omega) (by omega))) rfl ?_; clear hE a; intro a hE
  obtain ⟨cq3, hq3⟩ := own_rd (hM.get 0 rfl)
  refine s_call hE rfl Try.call52 (num_fit ((((([67, 65, 83, 69, 82, 79, 79, 84] ++ (laid 8 rc)) ++ rt) ++ rh) ++ rb) ++ (laid 4 rm)) _ _ 4 ry _ hq3 rfl (.inr (by first | omega | (simp; omega))) (by have hl_ : ((((([67, 65, 83, 69, 82, 79, 79, 84] ++ (laid 8 rc)) ++ rt) ++ rh) ++ rb) ++ (laid 4 rm)).length = 8 + 8 + 32 + 32 + 32 + 4 := (by have hl_p : (((([67, 65, 83, 69, 82, 79, 79, 84] ++ (laid 8 rc)) ++ rt) ++ rh) ++ rb).length = 8 + 8 + 32 + 32 + 32 := (by have hl_p : ((([67, 65, 83, 69, 82, 79, 79, 84] ++ (laid 8 rc)) ++ rt) ++ rh).length = 8 + 8 + 32 + 32 := (by have hl_p : (([67, 65, 83, 69, 82, 79, 79, 84] ++ (laid 8 rc)) ++ rt).length = 8 + 8 + 32 := (by have hl_p : ([67, 65, 83, 69, 82, 79, 79, 84] ++ (laid 8 rc)).length = 8 + 8 := (by have hl_p : [67, 65, 83, 69, 82, 79, 79, 84].length = 8 := (by first | (simp; done) | (simp [*]; done) | (simp; omega)); have hl_q : (laid 8 rc).length = 8 := (by simp); rw [List.length_append]; omega); have hl_q : rt.length = 32 := hl_rt; rw [List.length_append]; omega); have hl_q : rh.length = 32 := hl_rh; rw [List.length_append]; omega); have hl_q : rb.length = 32 := hl_rb; rw [List.length_append]; omega); have hl_q : (laid 4 rm).length = 4 := (by simp); rw [List.length_append]; omega); first | omega | (simp; done) | (simp; omega))) rfl ?_
  rintro e w10 ⟨v42, rfl, hN⟩
  refine ⟨_, rfl, trivial, ?_⟩; clear hE a; intro a hE
  replace hM : Mem _ _ w10 [_, _, _, _, _] := hM.call0 hN ⟨rfl, trivial⟩; clear hN
  refine s_move hE rfl rfl ?_; clear hE a; intro a hE
  refine s_extract hE rfl rfl rfl ?_; clear hE a; intro a hE
  refine s_extract hE rfl rfl rfl ?_; clear hE a; intro a hE
  refine s_assign hE rfl rfl ?_; clear hE a; intro a hE
  refine q_nil ?_
  replace hE : Env a 51 [(1, _), (2, _), (3, _), (4, _), (8, _)] := hE.sel [1, 2, 3, 4, 8] rfl
  refine hK9 _ _ ?_
  refine wp_seq_k (fun K10 hK10 => ?_)
  refine wp_plain [true, false, true, true, true, true] rfl rfl ?_
  refine s_move hE rfl rfl ?_; clear hE a; intro a hE
  obtain ⟨cq4, hq4⟩ := own_rd (hM.get 0 rfl)
  refine s_call hE rfl Try.call52 (num_fit (((((([67, 65, 83, 69, 82, 79, 79, 84] ++ (laid 8 rc)) ++ rt) ++ rh) ++ rb) ++ (laid 4 rm)) ++ (laid 4 ry)) _ _ 8 0 _ hq4 rfl (.inl (by decide)) (by have hl_ : (((((([67, 65, 83, 69, 82, 79, 79, 84] ++ (laid 8 rc)) ++ rt) ++ rh) ++ rb) ++ (laid 4 rm)) ++ (laid 4 ry)).length = 8 + 8 + 32 + 32 + 32 + 4 + 4 := (by have hl_p : ((((([67, 65, 83, 69, 82, 79, 79, 84] ++ (laid 8 rc)) ++ rt) ++ rh) ++ rb) ++ (laid 4 rm)).length = 8 + 8 + 32 + 32 + 32 + 4 := (by have hl_p : (((([67, 65, 83, 69, 82, 79, 79, 84] ++ (laid 8 rc)) ++ rt) ++ rh) ++ rb).length = 8 + 8 + 32 + 32 + 32 := (by have hl_p : ((([67, 65, 83, 69, 82, 79, 79, 84] ++ (laid 8 rc)) ++ rt) ++ rh).length = 8 + 8 + 32 + 32 := (by have hl_p : (([67, 65, 83, 69, 82, 79, 79, 84] ++ (laid 8 rc)) ++ rt).length = 8 + 8 + 32 := (by have hl_p : ([67, 65, 83, 69, 82, 79, 79, 84] ++ (laid 8 rc)).length = 8 + 8 := (by have hl_p : [67, 65, 83, 69, 82, 79, 79, 84].length = 8 := (by first | (simp; done) | (simp [*]; done) | (simp; omega)); have hl_q : (laid 8 rc).length = 8 := (by simp); rw [List.length_append]; omega); have hl_q : rt.length = 32 := hl_rt; rw [List.length_append]; omega); have hl_q : rh.length = 32 := hl_rh; rw [List.length_append]; omega); have hl_q : rb.length = 32 := hl_rb; rw [List.length_append]; omega); have hl_q : (laid 4 rm).length = 4 := (by simp); rw [List.length_append]; omega); have hl_q : (laid 4 ry).length = 4 := (by simp); rw [List.length_append]; omega); first | omega | (simp; done) | (simp; omega))) rfl ?_
  rintro e w11 ⟨v47, rfl, hN⟩
  refine ⟨_, rfl, trivial, ?_⟩; clear hE a; intro a hE
  replace hM : Mem _ _ w11 [_, _, _, _, _, _] := hM.call0 hN ⟨rfl, trivial⟩; clear hN
  refine s_move hE rfl rfl ?_; clear hE a; intro a hE
  refine s_extract hE rfl rfl rfl ?_; clear hE a; intro a hE
  refine s_extract hE rfl rfl rfl ?_; clear hE a; intro a hE
  refine s_assign hE rfl rfl ?_; clear hE a; intro a hE
  refine q_nil ?_
  replace hE : Env a 51 [(1, _), (2, _), (3, _), (4, _), (8, _)] := hE.sel [1, 2, 3, 4, 8] rfl
  refine hK10 _ _ ?_
  refine wp_seq_k (fun K11 hK11 => ?_)
  refine wp_plain [true, true, true] rfl rfl ?_
  refine s_move hE rfl rfl ?_; clear hE a; intro a hE
  refine s_assign hE rfl rfl ?_; clear hE a; intro a hE
  refine s_assign hE rfl rfl ?_; clear hE a; intro a hE
  refine q_nil ?_
  replace hE : Env a 51 [(1, _), (2, _), (3, _), (4, _), (8, _)] := hE.sel [1, 2, 3, 4, 8] rfl
  refine hK11 _ _ ?_
  refine wp_ret ?_
  refine f_ret2 hE rfl rfl rfl ?_
  replace hM := Mem.ownB (p := (((((([67, 65, 83, 69, 82, 79, 79, 84] ++ (laid 8 rc)) ++ rt) ++ rh) ++ rb) ++ (laid 4 rm)) ++ (laid 4 ry)) ++ (laid 8 0)) (q := rootB rc rt rh rb rm ry) hM (by first | (simp [rootB, markR]; done) | (simp [rootB, markR]; decide))
  exact ⟨_, (by first | rfl | (simp; done)), hM.pick [0] rfl⟩
theorem putroot_bad (rc : Nat) (rt : List UInt8) (rh : List UInt8) (rb : List UInt8) (rm : Int) (ry : Int) (w : World) (hl_rt : rt.length = 32) (hl_rh : rh.length = 32) (hl_rb : rb.length = 32) (hbad : rootOk rc rm ry = false) : Calls Try.prog 26 #[.agg ([[.int .u64 ((rc : Nat) : Int)], bv rt, bv rh, bv rb, [.int .i64 rm], [.int .i64 ry]] : List (List Value)).flatten.toArray] w fun e w' => e = .returned (.tuple #[.slice none 0 0, .int .i64 2]) ∧ Mem w [] w' [] := by
  have hM := Mem.start0 w
  refine f_enter 51 Try.func26 rfl rfl rfl ?_
  intro a hE
  replace hE : Env a 51 [(0, _)] := hE
  refine wp_seq_k (fun K1 hK1 => ?_)
  refine wp_plain [false, true, true] rfl rfl ?_
  refine s_box (ss := [[.int .u64 ((rc : Nat) : Int)], bv rt, bv rh, bv rb, [.int .i64 rm], [.int .i64 ry]]) [1, 32, 32, 32, 1, 1] hE hM rfl rfl (by simp [*]) rfl ?_; clear hE a; intro a b1 w1 hE hM'
  clear hM; have hM := hM'; clear hM'
  refine s_assign hE rfl rfl ?_; clear hE a; intro a hE
  refine s_assign hE rfl rfl ?_; clear hE a; intro a hE
  refine q_nil ?_
  replace hE : Env a 51 [(1, _), (2, _), (3, _)] := hE.sel [1, 2, 3] rfl
  refine hK1 _ _ ?_
  refine wp_seq_k (fun K2 hK2 => ?_)
  refine wp_seq_k (fun K3 hK3 => ?_)
  refine wp_plain [true, false, true] rfl rfl ?_
  refine s_loadN hE rfl (hM.get 0 rfl) row67 rfl (by intro X h; cases h) rfl ?_; clear hE a; intro a hE
  replace hE := hE.cast 6 rfl (show _ = Value.agg ([[.int .u64 ((rc : Nat) : Int)], bv rt, bv rh, bv rb, [.int .i64 rm], [.int .i64 ry]] : List (List Value)).flatten.toArray from (by first | rfl | simp))
  refine s_call hE rfl Try.call51 (root_c rc rt rh rb rm ry _ hl_rt hl_rh hl_rb) rfl ?_
  rintro e w2 ⟨rfl, hN⟩
  refine ⟨_, rfl, trivial, ?_⟩; clear hE a; intro a hE
  replace hM : Mem _ _ w2 [_] := hM.call0 hN trivial; clear hN
  refine s_not hE rfl rfl ?_; clear hE a; intro a hE
  refine q_nil ?_
  replace hE : Env a 51 [(1, _), (2, _), (3, _), (8, _)] := hE.sel [1, 2, 3, 8] rfl
  refine hK3 _ _ ?_
  replace hE := hE.cast 8 rfl (show _ = Value.bool true from (congrArg Value.bool (by rw [hbad]; rfl)))
  refine wp_cond_true (hE.eval rfl) ?_
  refine wp_seq_k (fun K4 hK4 => ?_)
  refine wp_plain [true, true] rfl rfl ?_
  refine s_assign hE rfl rfl ?_; clear hE a; intro a hE
  refine s_assign hE rfl rfl ?_; clear hE a; intro a hE
  refine q_nil ?_
  refine hK4 _ _ ?_
  refine wp_ret ?_
  refine q_then_r ?_
  refine f_ret2 hE rfl rfl rfl ?_
  exact ⟨(by first | rfl | (simp; done)), hM.pick [] rfl⟩
theorem rputroot_c (rc : Nat) (rt : List UInt8) (rh : List UInt8) (rb : List UInt8) (rm : Nat) (ry : Nat) (w : World) (hl_rt : rt.length = 32) (hl_rh : rh.length = 32) (hl_rb : rb.length = 32) (h1 : rc ≤ 4611686018427387904) (h2 : rm ≤ 2147483647) (h3 : ry ≤ 2147483647) : Calls Try.prog 27 #[.agg ([[.int .u64 ((rc : Nat) : Int)], bv rt, bv rh, bv rb, [.int .i64 ((rm : Nat) : Int)], [.int .i64 ((ry : Nat) : Int)]] : List (List Value)).flatten.toArray] w fun e w' => ∃ v', e = .returned (.tuple #[v', .int .i64 0]) ∧ Mem w [] w' [own v' 1 (rootB rc rt rh rb rm ry).length (bv (rootB rc rt rh rb rm ry))] := by
  have hM := Mem.start0 w
  refine f_enter 55 Try.func27 rfl rfl rfl ?_
  intro a hE
  replace hE : Env a 55 [(0, _)] := hE
  refine wp_seq_k (fun K1 hK1 => ?_)
  refine wp_plain [false, true, true] rfl rfl ?_
  refine s_box (ss := [[.int .u64 ((rc : Nat) : Int)], bv rt, bv rh, bv rb, [.int .i64 ((rm : Nat) : Int)], [.int .i64 ((ry : Nat) : Int)]]) [1, 32, 32, 32, 1, 1] hE hM rfl rfl (by simp [*]) rfl ?_; clear hE a; intro a b1 w1 hE hM'
  clear hM; have hM := hM'; clear hM'
  refine s_assign hE rfl rfl ?_; clear hE a; intro a hE
  refine s_assign hE rfl rfl ?_; clear hE a; intro a hE
  refine q_nil ?_
  replace hE : Env a 55 [(1, _), (2, _), (3, _)] := hE.sel [1, 2, 3] rfl
  refine hK1 _ _ ?_
  refine wp_seq_k (fun K2 hK2 => ?_)
  refine wp_seq_k (fun K3 hK3 => ?_)
  refine wp_plain [true, false, true] rfl rfl ?_
  refine s_loadN hE rfl (hM.get 0 rfl) row67 rfl (by intro X h; cases h) rfl ?_; clear hE a; intro a hE
  replace hE := hE.cast 11 rfl (show _ = Value.agg ([[.int .u64 ((rc : Nat) : Int)], bv rt, bv rh, bv rb, [.int .i64 ((rm : Nat) : Int)], [.int .i64 ((ry : Nat) : Int)]] : List (List Value)).flatten.toArray from (by first | rfl | simp))
  refine s_call hE rfl Try.call53 (rmayroot_c rc rt rh rb ((rm : Nat) : Int) ((ry : Nat) : Int) _ hl_rt hl_rh hl_rb) rfl ?_
  rintro e w2 ⟨rfl, hN⟩
  refine ⟨_, rfl, trivial, ?_⟩; clear hE a; intro a hE
  replace hM : Mem _ _ w2 [_] := hM.call0 hN trivial; clear hN
  refine s_not hE rfl rfl ?_; clear hE a; intro a hE
  refine q_nil ?_
  replace hE : Env a 55 [(1, _), (2, _), (3, _), (13, _)] := hE.sel [1, 2, 3, 13] rfl
  refine hK3 _ _ ?_
  replace hE := hE.cast 13 rfl (show _ = Value.bool false from (congrArg Value.bool (by simp [rootOk, numB]; omega)))
  refine wp_cond_false (hE.eval rfl) ?_
  refine wp_skip ?_
  refine hK2 _ _ ?_
  refine wp_seq_k (fun K4 hK4 => ?_)
  refine wp_plain [false, true] rfl rfl ?_
  refine s_buildSlice (xs := [.const (.int .u8 67), .const (.int .u8 65), .const (.int .u8 83), .const (.int .u8 69), .const (.int .u8 82), .const (.int .u8 79), .const (.int .u8 79), .const (.int .u8 84)]) (bv [67, 65, 83, 69, 82, 79, 79, 84]) hE hM sl55 rfl rfl rfl (by intro v hv; first | (cases hv; done) | (obtain ⟨x, _, rfl⟩ := List.mem_map.1 (show v ∈ bv [67, 65, 83, 69, 82, 79, 79, 84] from hv); rfl)) rfl rfl rfl rfl ?_; clear hE a; intro a v14 w3 hE hM'
  clear hM; have hM := hM'; clear hM'
  replace hM := hM.ownEq (m' := [67, 65, 83, 69, 82, 79, 79, 84].length) (cs' := bv [67, 65, 83, 69, 82, 79, 79, 84]) rfl rfl
  refine s_assign hE rfl rfl ?_; clear hE a; intro a hE
  refine q_nil ?_
  replace hE : Env a 55 [(1, _), (2, _), (3, _), (4, _), (13, _)] := hE.sel [1, 2, 3, 4, 13] rfl
  refine hK4 _ _ ?_
  refine wp_seq_k (fun K5 hK5 => ?_)
  refine wp_plain [true, true, false, true] rfl rfl ?_
  refine s_fieldAddr hE rfl fo67_0 rfl ?_; clear hE a; intro a hE
  refine s_load1 hE rfl (hM.get 1 rfl) rfl one24 (by intro X h; cases h) rfl ?_; clear hE a; intro a hE
  refine s_call hE rfl Try.call54 (rnumber_c rc 8 _ (by first | omega | assumption | (simp; done) | (simp; omega) | decide) (by first | omega | assumption | (simp; done) | (simp; omega) | decide)) rfl ?_
  rintro e w4 ⟨v17, rfl, hN⟩
  refine ⟨_, rfl, trivial, ?_⟩; clear hE a; intro a hE
  replace hM : Mem _ _ w4 [_, _, _] := hM.call0 hN ⟨rfl, trivial⟩; clear hN
  refine s_assign hE rfl rfl ?_; clear hE a; intro a hE
  refine q_nil ?_
  replace hE : Env a 55 [(1, _), (2, _), (3, _), (4, _), (5, _), (13, _)] := hE.sel [1, 2, 3, 4, 5, 13] rfl
  refine hK5 _ _ ?_
  refine wp_seq_k (fun K6 hK6 => ?_)
  refine wp_drawnM hM (by kernel_rfl) (fun _ => False) [(0, true), (1, true), (3, true), (4, true), (6, true), (7, true), (2, false), (5, false), (8, false), (9, true), (10, true), (11, true)] [(2, [(5, 2), (8, 5), (9, 2), (10, 2), (11, 2)]), (5, [(8, 5), (9, 8), (10, 5), (11, 5)]), (8, [(9, 8), (10, 9), (11, 8)])] (by kernel_rfl) rfl ?_
  intro w5 hM' hww5; clear hM; have hM := hM'; clear hM'
  refine s_fieldAddr hE rfl fo67_1 rfl ?_; clear hE a; intro a hE
  refine s_loadN hE rfl (hM.get 2 rfl) row27 rfl (by intro X h; cases h; simp) rfl ?_; clear hE a; intro a hE
  refine s_fieldAddr hE rfl fo67_2 rfl ?_; clear hE a; intro a hE
  refine s_loadN hE rfl (hM.get 2 rfl) row27 rfl (by intro X h; cases h; simp) rfl ?_; clear hE a; intro a hE
  refine s_fieldAddr hE rfl fo67_3 rfl ?_; clear hE a; intro a hE
  refine s_loadN hE rfl (hM.get 2 rfl) row27 rfl (by intro X h; cases h; simp) rfl ?_; clear hE a; intro a hE
  refine s_call hE rfl Try.call55 (rtag21_c rt _ hl_rt) rfl ?_
  rintro e w6 ⟨v20, rfl, hN⟩
  refine ⟨_, rfl, hN.sta0 _, ?_⟩; clear hE a; intro a hE
  replace hM : Mem _ _ w6 [_, _, _, _] := hM.call0 hN ⟨rfl, trivial⟩; clear hN
  refine s_call hE rfl Try.call55 (rtag21_c rh _ hl_rh) rfl ?_
  rintro e w7 ⟨v23, rfl, hN⟩
  refine ⟨_, rfl, hN.sta0 _, ?_⟩; clear hE a; intro a hE
  replace hM : Mem _ _ w7 [_, _, _, _, _] := hM.call0 hN ⟨rfl, trivial⟩; clear hN
  refine s_call hE rfl Try.call55 (rtag21_c rb _ hl_rb) rfl ?_
  rintro e w8 ⟨v26, rfl, hN⟩
  refine ⟨_, rfl, hN.sta0 _, ?_⟩; clear hE a; intro a hE
  replace hM : Mem _ _ w8 [_, _, _, _, _, _] := hM.call0 hN ⟨rfl, trivial⟩; clear hN
  refine s_assign hE rfl rfl ?_; clear hE a; intro a hE
  refine s_assign hE rfl rfl ?_; clear hE a; intro a hE
  refine s_assign hE rfl rfl ?_; clear hE a; intro a hE
  refine q_nil ?_
  replace hE : Env a 55 [(1, _), (2, _), (3, _), (4, _), (5, _), (6, _), (7, _), (8, _), (13, _)] := hE.sel [1, 2, 3, 4, 5, 6, 7, 8, 13] rfl
  refine hK6 _ _ ?_
  refine wp_seq_k (fun K7 hK7 => ?_)
  refine wp_plain [true, true, true, false, true] rfl rfl ?_
  refine s_fieldAddr hE rfl fo67_4 rfl ?_; clear hE a; intro a hE
  refine s_load1 hE rfl (hM.get 5 rfl) rfl one3 (by intro X h; cases h) rfl ?_; clear hE a; intro a hE
  refine s_conv hE rfl (cnv_int Try.underlying3 Try.underlying24 (wrap_u64 (by omega) (by omega))) rfl ?_; clear hE a; intro a hE
  refine s_call hE rfl Try.call54 (rnumber_c rm 4 _ (by first | omega | assumption | (simp; done) | (simp; omega) | decide) (by first | omega | assumption | (simp; done) | (simp; omega) | decide)) rfl ?_
  rintro e w9 ⟨v30, rfl, hN⟩
  refine ⟨_, rfl, trivial, ?_⟩; clear hE a; intro a hE
  replace hM : Mem _ _ w9 [_, _, _, _, _, _, _] := hM.call0 hN ⟨rfl, trivial⟩; clear hN
  refine s_assign hE rfl rfl ?_; clear hE a; intro a hE
  refine q_nil ?_
  replace hE : Env a 55 [(1, _), (2, _), (3, _), (4, _), (5, _), (6, _), (7, _), (8, _), (9, _), (13, _)] := hE.sel [1, 2, 3, 4, 5, 6, 7, 8, 9, 13] rfl
  refine hK7 _ _ ?_
  refine wp_seq_k (fun K8 hK8 => ?_)
  refine wp_plain [true, true, true, false, true] rfl rfl ?_
  refine s_fieldAddr hE rfl fo67_5 rfl ?_; clear hE a; intro a hE
  refine s_load1 hE rfl (hM.get 6 rfl) rfl one3 (by intro X h; cases h) rfl ?_; clear hE a; intro a hE
  refine s_conv hE rfl (cnv_int Try.underlying3 Try.underlying24 (wrap_u64 (by omega) (by omega))) rfl ?_; clear hE a; intro a hE
  refine s_call hE rfl Try.call54 (rnumber_c ry 4 _ (by first | omega | assumption | (simp; done) | (simp; omega) | decide) (by first | omega | assumption | (simp; done) | (simp; omega) | decide)) rfl ?_
  rintro e w10 ⟨v34, rfl, hN⟩
  refine ⟨_, rfl, trivial, ?_⟩; clear hE a; intro a hE
  replace hM : Mem _ _ w10 [_, _, _, _, _, _, _, _] := hM.call0 hN ⟨rfl, trivial⟩; clear hN
  refine s_assign hE rfl rfl ?_; clear hE a; intro a hE
  refine q_nil ?_
  replace hE : Env a 55 [(1, _), (2, _), (3, _), (4, _), (5, _), (6, _), (7, _), (8, _), (9, _), (10, _), (13, _)] := hE.sel [1, 2, 3, 4, 5, 6, 7, 8, 9, 10, 13] rfl
  refine hK8 _ _ ?_
  refine wp_seq_k (fun K9 hK9 => ?_)
  refine wp_plain [true, true, false, true] rfl rfl ?_
  refine s_move hE rfl rfl ?_; clear hE a; intro a hE
  refine s_move hE rfl rfl ?_; clear hE a; intro a hE
  replace hM : Mem _ _ w10 [_, _, _, _, _, _, _, _] := hM.pick [6, 0, 1, 2, 3, 4, 5, 7] rfl
  obtain ⟨cq1, hq1⟩ := own_rd (hM.get 6 rfl)
  refine s_append hE rfl rfl hM sl55 (Src.rd Try.underlying55 hq1 (bv_one _)) (len47 (by have hl_x : [67, 65, 83, 69, 82, 79, 79, 84].length = 8 := (by first | (simp; done) | (simp [*]; done) | (simp; omega)); have hl_y : (laid 8 rc).length = 8 := (by simp); first | omega | (simp; done) | (simp; omega))) (by have hl_x : [67, 65, 83, 69, 82, 79, 79, 84].length = 8 := (by first | (simp; done) | (simp [*]; done) | (simp; omega)); have hl_y : (laid 8 rc).length = 8 := (by simp); first | omega | (simp; done) | (simp; omega)) (by intro X h; cases h) rfl ?_; clear hE a; intro a v37 w11 hE hM'; clear hM; have hM := hM'; clear hM'
  replace hM := Mem.ownApp (p := [67, 65, 83, 69, 82, 79, 79, 84]) (q := laid 8 rc) hM (by first | rfl | (simp; done))
  refine s_assign hE rfl rfl ?_; clear hE a; intro a hE
  refine q_nil ?_
  replace hE : Env a 55 [(1, _), (2, _), (3, _), (4, _), (6, _), (7, _), (8, _), (9, _), (10, _), (13, _)] := hE.sel [1, 2, 3, 4, 6, 7, 8, 9, 10, 13] rfl
  refine hK9 _ _ ?_
  refine wp_seq_k (fun K10 hK10 => ?_)
  refine wp_plain [true, true, false, true] rfl rfl ?_
  refine s_move hE rfl rfl ?_; clear hE a; intro a hE
  refine s_move hE rfl rfl ?_; clear hE a; intro a hE
  obtain ⟨cq2, hq2⟩ := own_rd (hM.get 5 rfl)
  refine s_append hE rfl rfl hM sl55 (Src.rd Try.underlying55 hq2 (bv_one _)) (len47 (by have hl_x : ([67, 65, 83, 69, 82, 79, 79, 84] ++ (laid 8 rc)).length = 8 + 8 := (by have hl_p : [67, 65, 83, 69, 82, 79, 79, 84].length = 8 := (by first | (simp; done) | (simp [*]; done) | (simp; omega)); have hl_q : (laid 8 rc).length = 8 := (by simp); rw [List.length_append]; omega); have hl_y : rt.length = 32 := (by first | assumption | simp [*]); first | omega | (simp; done) | (simp; omega))) (by have hl_x : ([67, 65, 83, 69, 82, 79, 79, 84] ++ (laid 8 rc)).length = 8 + 8 := (by have hl_p : [67, 65, 83, 69, 82, 79, 79, 84].length = 8 := (by first | (simp; done) | (simp [*]; done) | (simp; omega)); have hl_q : (laid 8 rc).length = 8 := (by simp); rw [List.length_append]; omega); have hl_y : rt.length = 32 := (by first | assumption | simp [*]); first | omega | (simp; done) | (simp; omega)) (by intro X h; cases h) rfl ?_; clear hE a; intro a v40 w12 hE hM'; clear hM; have hM := hM'; clear hM'
  replace hM := Mem.ownApp (p := [67, 65, 83, 69, 82, 79, 79, 84] ++ (laid 8 rc)) (q := rt) hM (by first | rfl | (simp; done))
  refine s_assign hE rfl rfl ?_; clear hE a; intro a hE
  refine q_nil ?_
  replace hE : Env a 55 [(1, _), (2, _), (3, _), (4, _), (7, _), (8, _), (9, _), (10, _), (13, _)] := hE.sel [1, 2, 3, 4, 7, 8, 9, 10, 13] rfl
  refine hK10 _ _ ?_
  refine wp_seq_k (fun K11 hK11 => ?_)
  refine wp_plain [true, true, false, true] rfl rfl ?_
  refine s_move hE rfl rfl ?_; clear hE a; intro a hE
  refine s_move hE rfl rfl ?_; clear hE a; intro a hE
  obtain ⟨cq3, hq3⟩ := own_rd (hM.get 4 rfl)
  refine s_append hE rfl rfl hM sl55 (Src.rd Try.underlying55 hq3 (bv_one _)) (len47 (by have hl_x : (([67, 65, 83, 69, 82, 79, 79, 84] ++ (laid 8 rc)) ++ rt).length = 8 + 8 + 32 := (by have hl_p : ([67, 65, 83, 69, 82, 79, 79, 84] ++ (laid 8 rc)).length = 8 + 8 := (by have hl_p : [67, 65, 83, 69, 82, 79, 79, 84].length = 8 := (by first | (simp; done) | (simp [*]; done) | (simp; omega)); have hl_q : (laid 8 rc).length = 8 := (by simp); rw [List.length_append]; omega); have hl_q : rt.length = 32 := (by first | assumption | simp [*]); rw [List.length_append]; omega); have hl_y : rh.length = 32 := (by first | assumption | simp [*]); first | omega | (simp; done) | (simp; omega))) (by have hl_x : (([67, 65, 83, 69, 82, 79, 79, 84] ++ (laid 8 rc)) ++ rt).length = 8 + 8 + 32 := (by have hl_p : ([67, 65, 83, 69, 82, 79, 79, 84] ++ (laid 8 rc)).length = 8 + 8 := (by have hl_p : [67, 65, 83, 69, 82, 79, 79, 84].length = 8 := (by first | (simp; done) | (simp [*]; done) | (simp; omega)); have hl_q : (laid 8 rc).length = 8 := (by simp); rw [List.length_append]; omega); have hl_q : rt.length = 32 := (by first | assumption | simp [*]); rw [List.length_append]; omega); have hl_y : rh.length = 32 := (by first | assumption | simp [*]); first | omega | (simp; done) | (simp; omega)) (by intro X h; cases h) rfl ?_; clear hE a; intro a v43 w13 hE hM'; clear hM; have hM := hM'; clear hM'
  replace hM := Mem.ownApp (p := ([67, 65, 83, 69, 82, 79, 79, 84] ++ (laid 8 rc)) ++ rt) (q := rh) hM (by first | rfl | (simp; done))
  refine s_assign hE rfl rfl ?_; clear hE a; intro a hE
  refine q_nil ?_
  replace hE : Env a 55 [(1, _), (2, _), (3, _), (4, _), (8, _), (9, _), (10, _), (13, _)] := hE.sel [1, 2, 3, 4, 8, 9, 10, 13] rfl
  refine hK11 _ _ ?_
  refine wp_seq_k (fun K12 hK12 => ?_)
  refine wp_plain [true, true, false, true] rfl rfl ?_
  refine s_move hE rfl rfl ?_; clear hE a; intro a hE
  refine s_move hE rfl rfl ?_; clear hE a; intro a hE
  obtain ⟨cq4, hq4⟩ := own_rd (hM.get 3 rfl)
  refine s_append hE rfl rfl hM sl55 (Src.rd Try.underlying55 hq4 (bv_one _)) (len47 (by have hl_x : ((([67, 65, 83, 69, 82, 79, 79, 84] ++ (laid 8 rc)) ++ rt) ++ rh).length = 8 + 8 + 32 + 32 := (by have hl_p : (([67, 65, 83, 69, 82, 79, 79, 84] ++ (laid 8 rc)) ++ rt).length = 8 + 8 + 32 := (by have hl_p : ([67, 65, 83, 69, 82, 79, 79, 84] ++ (laid 8 rc)).length = 8 + 8 := (by have hl_p : [67, 65, 83, 69, 82, 79, 79, 84].length = 8 := (by first | (simp; done) | (simp [*]; done) | (simp; omega)); have hl_q : (laid 8 rc).length = 8 := (by simp); rw [List.length_append]; omega); have hl_q : rt.length = 32 := (by first | assumption | simp [*]); rw [List.length_append]; omega); have hl_q : rh.length = 32 := (by first | assumption | simp [*]); rw [List.length_append]; omega); have hl_y : rb.length = 32 := (by first | assumption | simp [*]); first | omega | (simp; done) | (simp; omega))) (by have hl_x : ((([67, 65, 83, 69, 82, 79, 79, 84] ++ (laid 8 rc)) ++ rt) ++ rh).length = 8 + 8 + 32 + 32 := (by have hl_p : (([67, 65, 83, 69, 82, 79, 79, 84] ++ (laid 8 rc)) ++ rt).length = 8 + 8 + 32 := (by have hl_p : ([67, 65, 83, 69, 82, 79, 79, 84] ++ (laid 8 rc)).length = 8 + 8 := (by have hl_p : [67, 65, 83, 69, 82, 79, 79, 84].length = 8 := (by first | (simp; done) | (simp [*]; done) | (simp; omega)); have hl_q : (laid 8 rc).length = 8 := (by simp); rw [List.length_append]; omega); have hl_q : rt.length = 32 := (by first | assumption | simp [*]); rw [List.length_append]; omega); have hl_q : rh.length = 32 := (by first | assumption | simp [*]); rw [List.length_append]; omega); have hl_y : rb.length = 32 := (by first | assumption | simp [*]); first | omega | (simp; done) | (simp; omega)) (by intro X h; cases h) rfl ?_; clear hE a; intro a v46 w14 hE hM'; clear hM; have hM := hM'; clear hM'
  replace hM := Mem.ownApp (p := (([67, 65, 83, 69, 82, 79, 79, 84] ++ (laid 8 rc)) ++ rt) ++ rh) (q := rb) hM (by first | rfl | (simp; done))
  refine s_assign hE rfl rfl ?_; clear hE a; intro a hE
  refine q_nil ?_
  replace hE : Env a 55 [(1, _), (2, _), (3, _), (4, _), (9, _), (10, _), (13, _)] := hE.sel [1, 2, 3, 4, 9, 10, 13] rfl
  refine hK12 _ _ ?_
  refine wp_seq_k (fun K13 hK13 => ?_)
  refine wp_plain [true, true, false, true] rfl rfl ?_
  refine s_move hE rfl rfl ?_; clear hE a; intro a hE
  refine s_move hE rfl rfl ?_; clear hE a; intro a hE
  obtain ⟨cq5, hq5⟩ := own_rd (hM.get 2 rfl)
  refine s_append hE rfl rfl hM sl55 (Src.rd Try.underlying55 hq5 (bv_one _)) (len47 (by have hl_x : (((([67, 65, 83, 69, 82, 79, 79, 84] ++ (laid 8 rc)) ++ rt) ++ rh) ++ rb).length = 8 + 8 + 32 + 32 + 32 := (by have hl_p : ((([67, 65, 83, 69, 82, 79, 79, 84] ++ (laid 8 rc)) ++ rt) ++ rh).length = 8 + 8 + 32 + 32 := (by have hl_p : (([67, 65, 83, 69, 82, 79, 79, 84] ++ (laid 8 rc)) ++ rt).length = 8 + 8 + 32 := (by have hl_p : ([67, 65, 83, 69, 82, 79, 79, 84] ++ (laid 8 rc)).length = 8 + 8 := (by have hl_p : [67, 65, 83, 69, 82, 79, 79, 84].length = 8 := (by first | (simp; done) | (simp [*]; done) | (simp; omega)); have hl_q : (laid 8 rc).length = 8 := (by simp); rw [List.length_append]; omega); have hl_q : rt.length = 32 := (by first | assumption | simp [*]); rw [List.length_append]; omega); have hl_q : rh.length = 32 := (by first | assumption | simp [*]); rw [List.length_append]; omega); have hl_q : rb.length = 32 := (by first | assumption | simp [*]); rw [List.length_append]; omega); have hl_y : (laid 4 rm).length = 4 := (by simp); first | omega | (simp; done) | (simp; omega))) (by have hl_x : (((([67, 65, 83, 69, 82, 79, 79, 84] ++ (laid 8 rc)) ++ rt) ++ rh) ++ rb).length = 8 + 8 + 32 + 32 + 32 := (by have hl_p : ((([67, 65, 83, 69, 82, 79, 79, 84] ++ (laid 8 rc)) ++ rt) ++ rh).length = 8 + 8 + 32 + 32 := (by have hl_p : (([67, 65, 83, 69, 82, 79, 79, 84] ++ (laid 8 rc)) ++ rt).length = 8 + 8 + 32 := (by have hl_p : ([67, 65, 83, 69, 82, 79, 79, 84] ++ (laid 8 rc)).length = 8 + 8 := (by have hl_p : [67, 65, 83, 69, 82, 79, 79, 84].length = 8 := (by first | (simp; done) | (simp [*]; done) | (simp; omega)); have hl_q : (laid 8 rc).length = 8 := (by simp); rw [List.length_append]; omega); have hl_q : rt.length = 32 := (by first | assumption | simp [*]); rw [List.length_append]; omega); have hl_q : rh.length = 32 := (by first | assumption | simp [*]); rw [List.length_append]; omega); have hl_q : rb.length = 32 := (by first | assumption | simp [*]); rw [List.length_append]; omega); have hl_y : (laid 4 rm).length = 4 := (by simp); first | omega | (simp; done) | (simp; omega)) (by intro X h; cases h) rfl ?_; clear hE a; intro a v49 w15 hE hM'; clear hM; have hM := hM'; clear hM'
  replace hM := Mem.ownApp (p := ((([67, 65, 83, 69, 82, 79, 79, 84] ++ (laid 8 rc)) ++ rt) ++ rh) ++ rb) (q := laid 4 rm) hM (by first | rfl | (simp; done))
  refine s_assign hE rfl rfl ?_; clear hE a; intro a hE
  refine q_nil ?_
  replace hE : Env a 55 [(1, _), (2, _), (3, _), (4, _), (10, _), (13, _)] := hE.sel [1, 2, 3, 4, 10, 13] rfl
  refine hK13 _ _ ?_
  refine wp_seq_k (fun K14 hK14 => ?_)
  refine wp_plain [true, true, false, true] rfl rfl ?_
  refine s_move hE rfl rfl ?_; clear hE a; intro a hE
  refine s_move hE rfl rfl ?_; clear hE a; intro a hE
  obtain ⟨cq6, hq6⟩ := own_rd (hM.get 1 rfl)
  refine s_append hE rfl rfl hM sl55 (Src.rd Try.underlying55 hq6 (bv_one _)) (len47 (by have hl_x : ((((([67, 65, 83, 69, 82, 79, 79, 84] ++ (laid 8 rc)) ++ rt) ++ rh) ++ rb) ++ (laid 4 rm)).length = 8 + 8 + 32 + 32 + 32 + 4 := (by have hl_p : (((([67, 65, 83, 69, 82, 79, 79, 84] ++ (laid 8 rc)) ++ rt) ++ rh) ++ rb).length = 8 + 8 + 32 + 32 + 32 := (by have hl_p : ((([67, 65, 83, 69, 82, 79, 79, 84] ++ (laid 8 rc)) ++ rt) ++ rh).length = 8 + 8 + 32 + 32 := (by have hl_p : (([67, 65, 83, 69, 82, 79, 79, 84] ++ (laid 8 rc)) ++ rt).length = 8 + 8 + 32 := (by have hl_p : ([67, 65, 83, 69, 82, 79, 79, 84] ++ (laid 8 rc)).length = 8 + 8 := (by have hl_p : [67, 65, 83, 69, 82, 79, 79, 84].length = 8 := (by first | (simp; done) | (simp [*]; done) | (simp; omega)); have hl_q : (laid 8 rc).length = 8 := (by simp); rw [List.length_append]; omega); have hl_q : rt.length = 32 := (by first | assumption | simp [*]); rw [List.length_append]; omega); have hl_q : rh.length = 32 := (by first | assumption | simp [*]); rw [List.length_append]; omega); have hl_q : rb.length = 32 := (by first | assumption | simp [*]); rw [List.length_append]; omega); have hl_q : (laid 4 rm).length = 4 := (by simp); rw [List.length_append]; omega); have hl_y : (laid 4 ry).length = 4 := (by simp); first | omega | (simp; done) | (simp; omega))) (by have hl_x : ((((([67, 65, 83, 69, 82, 79, 79, 84] ++ (laid 8 rc)) ++ rt) ++ rh) ++ rb) ++ (laid 4 rm)).length = 8 + 8 + 32 + 32 + 32 + 4 := (by have hl_p : (((([67, 65, 83, 69, 82, 79, 79, 84] ++ (laid 8 rc)) ++ rt) ++ rh) ++ rb).length = 8 + 8 + 32 + 32 + 32 := (by have hl_p : ((([67, 65, 83, 69, 82, 79, 79, 84] ++ (laid 8 rc)) ++ rt) ++ rh).length = 8 + 8 + 32 + 32 := (by have hl_p : (([67, 65, 83, 69, 82, 79, 79, 84] ++ (laid 8 rc)) ++ rt).length = 8 + 8 + 32 := (by have hl_p : ([67, 65, 83, 69, 82, 79, 79, 84] ++ (laid 8 rc)).length = 8 + 8 := (by have hl_p : [67, 65, 83, 69, 82, 79, 79, 84].length = 8 := (by first | (simp; done) | (simp [*]; done) | (simp; omega)); have hl_q : (laid 8 rc).length = 8 := (by simp); rw [List.length_append]; omega); have hl_q : rt.length = 32 := (by first | assumption | simp [*]); rw [List.length_append]; omega); have hl_q : rh.length = 32 := (by first | assumption | simp [*]); rw [List.length_append]; omega); have hl_q : rb.length = 32 := (by first | assumption | simp [*]); rw [List.length_append]; omega); have hl_q : (laid 4 rm).length = 4 := (by simp); rw [List.length_append]; omega); have hl_y : (laid 4 ry).length = 4 := (by simp); first | omega | (simp; done) | (simp; omega)) (by intro X h; cases h) rfl ?_; clear hE a; intro a v52 w16 hE hM'; clear hM; have hM := hM'; clear hM'
  replace hM := Mem.ownApp (p := (((([67, 65, 83, 69, 82, 79, 79, 84] ++ (laid 8 rc)) ++ rt) ++ rh) ++ rb) ++ (laid 4 rm)) (q := laid 4 ry) hM (by first | rfl | (simp; done))
  refine s_assign hE rfl rfl ?_; clear hE a; intro a hE
  refine q_nil ?_
  replace hE : Env a 55 [(1, _), (2, _), (3, _), (4, _), (13, _)] := hE.sel [1, 2, 3, 4, 13] rfl
  refine hK14 _ _ ?_
  refine wp_seq_k (fun K15 hK15 => ?_)
  refine wp_plain [true, false, true, true] rfl rfl ?_
  refine s_move hE rfl rfl ?_; clear hE a; intro a hE
  refine s_appZ (m' := 8) hE rfl rfl hM sl55 Try.underlying3 (by kernel_rfl) (by decide) (len47 (by have hl_x : (((((([67, 65, 83, 69, 82, 79, 79, 84] ++ (laid 8 rc)) ++ rt) ++ rh) ++ rb) ++ (laid 4 rm)) ++ (laid 4 ry)).length = 8 + 8 + 32 + 32 + 32 + 4 + 4 := (by have hl_p : ((((([67, 65, 83, 69, 82, 79, 79, 84] ++ (laid 8 rc)) ++ rt) ++ rh) ++ rb) ++ (laid 4 rm)).length = 8 + 8 + 32 + 32 + 32 + 4 := (by have hl_p : (((([67, 65, 83, 69, 82, 79, 79, 84] ++ (laid 8 rc)) ++ rt) ++ rh) ++ rb).length = 8 + 8 + 32 + 32 + 32 := (by have hl_p : ((([67, 65, 83, 69, 82, 79, 79, 84] ++ (laid 8 rc)) ++ rt) ++ rh).length = 8 + 8 + 32 + 32 := (by have hl_p : (([67, 65, 83, 69, 82, 79, 79, 84] ++ (laid 8 rc)) ++ rt).length = 8 + 8 + 32 := (by have hl_p : ([67, 65, 83, 69, 82, 79, 79, 84] ++ (laid 8 rc)).length = 8 + 8 := (by have hl_p : [67, 65, 83, 69, 82, 79, 79, 84].length = 8 := (by first | (simp; done) | (simp [*]; done) | (simp; omega)); have hl_q : (laid 8 rc).length = 8 := (by simp); rw [List.length_append]; omega); have hl_q : rt.length = 32 := (by first | assumption | simp [*]); rw [List.length_append]; omega); have hl_q : rh.length = 32 := (by first | assumption | simp [*]); rw [List.length_append]; omega); have hl_q : rb.length = 32 := (by first | assumption | simp [*]); rw [List.length_append]; omega); have hl_q : (laid 4 rm).length = 4 := (by simp); rw [List.length_append]; omega); have hl_q : (laid 4 ry).length = 4 := (by simp); rw [List.length_append]; omega); first | omega | (simp; done) | (simp; omega))) (by have hl_x : (((((([67, 65, 83, 69, 82, 79, 79, 84] ++ (laid 8 rc)) ++ rt) ++ rh) ++ rb) ++ (laid 4 rm)) ++ (laid 4 ry)).length = 8 + 8 + 32 + 32 + 32 + 4 + 4 := (by have hl_p : ((((([67, 65, 83, 69, 82, 79, 79, 84] ++ (laid 8 rc)) ++ rt) ++ rh) ++ rb) ++ (laid 4 rm)).length = 8 + 8 + 32 + 32 + 32 + 4 := (by have hl_p : (((([67, 65, 83, 69, 82, 79, 79, 84] ++ (laid 8 rc)) ++ rt) ++ rh) ++ rb).length = 8 + 8 + 32 + 32 + 32 := (by have hl_p : ((([67, 65, 83, 69, 82, 79, 79, 84] ++ (laid 8 rc)) ++ rt) ++ rh).length = 8 + 8 + 32 + 32 := (by have hl_p : (([67, 65, 83, 69, 82, 79, 79, 84] ++ (laid 8 rc)) ++ rt).length = 8 + 8 + 32 := (by have hl_p : ([67, 65, 83, 69, 82, 79, 79, 84] ++ (laid 8 rc)).length = 8 + 8 := (by have hl_p : [67, 65, 83, 69, 82, 79, 79, 84].length = 8 := (by first | (simp; done) | (simp [*]; done) | (simp; omega)); have hl_q : (laid 8 rc).length = 8 := (by simp); rw [List.length_append]; omega); have hl_q : rt.length = 32 := (by first | assumption | simp [*]); rw [List.length_append]; omega); have hl_q : rh.length = 32 := (by first | assumption | simp [*]); rw [List.length_append]; omega); have hl_q : rb.length = 32 := (by first | assumption | simp [*]); rw [List.length_append]; omega); have hl_q : (laid 4 rm).length = 4 := (by simp); rw [List.length_append]; omega); have hl_q : (laid 4 ry).length = 4 := (by simp); rw [List.length_append]; omega); first | omega | (simp; done) | (simp; omega)) (by intro X h; cases h) rfl ?_; clear hE a; intro a v54 w17 hE hM'; clear hM; have hM := hM'; clear hM'
  replace hM := Mem.ownApp (p := ((((([67, 65, 83, 69, 82, 79, 79, 84] ++ (laid 8 rc)) ++ rt) ++ rh) ++ rb) ++ (laid 4 rm)) ++ (laid 4 ry)) (q := List.replicate 8 (0 : UInt8)) hM (by simp)
  refine s_assign hE rfl rfl ?_; clear hE a; intro a hE
  refine s_assign hE rfl rfl ?_; clear hE a; intro a hE
  refine q_nil ?_
  replace hE : Env a 55 [(1, _), (2, _), (3, _), (4, _), (13, _)] := hE.sel [1, 2, 3, 4, 13] rfl
  refine hK15 _ _ ?_
  refine wp_ret ?_
  refine f_ret2 hE rfl rfl rfl ?_
  replace hM := Mem.ownB (p := (((((([67, 65, 83, 69, 82, 79, 79, 84] ++ (laid 8 rc)) ++ rt) ++ rh) ++ rb) ++ (laid 4 rm)) ++ (laid 4 ry)) ++ (List.replicate 8 (0 : UInt8))) (q := rootB rc rt rh rb rm ry) hM (by first | (simp [rootB, markR]; done) | (simp [rootB, markR]; decide))
  exact ⟨_, (by first | rfl | (simp; done)), hM.pick [0] rfl⟩
theorem rputroot_bad (rc : Nat) (rt : List UInt8) (rh : List UInt8) (rb : List UInt8) (rm : Int) (ry : Int) (w : World) (hl_rt : rt.length = 32) (hl_rh : rh.length = 32) (hl_rb : rb.length = 32) (hbad : rootOk rc rm ry = false) : Calls Try.prog 27 #[.agg ([[.int .u64 ((rc : Nat) : Int)], bv rt, bv rh, bv rb, [.int .i64 rm], [.int .i64 ry]] : List (List Value)).flatten.toArray] w fun e w' => e = .returned (.tuple #[.slice none 0 0, .int .i64 2]) ∧ Mem w [] w' [] := by
  have hM := Mem.start0 w
  refine f_enter 55 Try.func27 rfl rfl rfl ?_
  intro a hE
  replace hE : Env a 55 [(0, _)] := hE
  refine wp_seq_k (fun K1 hK1 => ?_)
  refine wp_plain [false, true, true] rfl rfl ?_
  refine s_box (ss := [[.int .u64 ((rc : Nat) : Int)], bv rt, bv rh, bv rb, [.int .i64 rm], [.int .i64 ry]]) [1, 32, 32, 32, 1, 1] hE hM rfl rfl (by simp [*]) rfl ?_; clear hE a; intro a b1 w1 hE hM'
  clear hM; have hM := hM'; clear hM'
  refine s_assign hE rfl rfl ?_; clear hE a; intro a hE
  refine s_assign hE rfl rfl ?_; clear hE a; intro a hE
  refine q_nil ?_
  replace hE : Env a 55 [(1, _), (2, _), (3, _)] := hE.sel [1, 2, 3] rfl
  refine hK1 _ _ ?_
  refine wp_seq_k (fun K2 hK2 => ?_)
  refine wp_seq_k (fun K3 hK3 => ?_)
  refine wp_plain [true, false, true] rfl rfl ?_
  refine s_loadN hE rfl (hM.get 0 rfl) row67 rfl (by intro X h; cases h) rfl ?_; clear hE a; intro a hE
  replace hE := hE.cast 11 rfl (show _ = Value.agg ([[.int .u64 ((rc : Nat) : Int)], bv rt, bv rh, bv rb, [.int .i64 rm], [.int .i64 ry]] : List (List Value)).flatten.toArray from (by first | rfl | simp))
  refine s_call hE rfl Try.call53 (rmayroot_c rc rt rh rb rm ry _ hl_rt hl_rh hl_rb) rfl ?_
  rintro e w2 ⟨rfl, hN⟩
  refine ⟨_, rfl, trivial, ?_⟩; clear hE a; intro a hE
  replace hM : Mem _ _ w2 [_] := hM.call0 hN trivial; clear hN
  refine s_not hE rfl rfl ?_; clear hE a; intro a hE
  refine q_nil ?_
  replace hE : Env a 55 [(1, _), (2, _), (3, _), (13, _)] := hE.sel [1, 2, 3, 13] rfl
  refine hK3 _ _ ?_
  replace hE := hE.cast 13 rfl (show _ = Value.bool true from (congrArg Value.bool (by rw [hbad]; rfl)))
  refine wp_cond_true (hE.eval rfl) ?_
  refine wp_seq_k (fun K4 hK4 => ?_)
  refine wp_plain [true, true] rfl rfl ?_
  refine s_assign hE rfl rfl ?_; clear hE a; intro a hE
  refine s_assign hE rfl rfl ?_; clear hE a; intro a hE
  refine q_nil ?_
  refine hK4 _ _ ?_
  refine wp_ret ?_
  refine q_then_r ?_
  refine f_ret2 hE rfl rfl rfl ?_
  exact ⟨(by first | rfl | (simp; done)), hM.pick [] rfl⟩
theorem getroot_ok (v : Value) (bs : List UInt8) (c : Nat) (w : World) (hr_bs : (rd v 1 bs.length c (bv bs)).holds w) (h : getOk bs = true) : Calls Try.prog 28 #[v] w fun e w' => e = .returned (.tuple #[.agg ([[.int .u64 ((val ((bs.drop 8).take 8) : Nat) : Int)], bv ((bs.drop 16).take 32), bv ((bs.drop 48).take 32), bv ((bs.drop 80).take 32), [.int .i64 ((val ((bs.drop 112).take 4) : Nat) : Int)], [.int .i64 ((val ((bs.drop 116).take 4) : Nat) : Int)]] : List (List Value)).flatten.toArray, .int .i64 0]) ∧ Mem w [] w' [] := by
  obtain ⟨hl, hmk, hv0, hro⟩ := getOk_facts h
  have hv4a := val4 (l := (bs.drop 112).take 4) (by simp [hl])
  have hv4b := val4 (l := (bs.drop 116).take 4) (by simp [hl])
  have hv8 := val8 (l := (bs.drop 8).take 8) (by simp [hl])
  have hM : Mem w [] w [rd v 1 bs.length c (bv bs)] := Mem.startR w (fun g hg => by
    simp only [List.mem_cons, List.not_mem_nil, or_false] at hg
    rcases hg with rfl
    · exact ⟨hr_bs, rfl⟩)
  refine f_enter 60 Try.func28 rfl rfl rfl ?_
  intro a hE
  replace hE : Env a 60 [(0, _)] := hE
  refine wp_seq_k (fun K1 hK1 => ?_)
  refine wp_plain [false, true] rfl rfl ?_
  refine s_alloc [1, 32, 32, 32, 1, 1] hE hM zero67 rfl rfl ?_; clear hE a; intro a b2 w1 hE hM'
  clear hM; have hM := hM'; clear hM'
  refine s_assign hE rfl rfl ?_; clear hE a; intro a hE
  refine q_nil ?_
  refine hK1 _ _ ?_
  refine wp_seq_k (fun K2 hK2 => ?_)
  refine wp_seq_k (fun K3 hK3 => ?_)
  refine wp_plain [true, true, true] rfl rfl ?_
  refine s_move hE rfl rfl ?_; clear hE a; intro a hE
  refine s_len hE rfl Try.underlying55 (rd_slice (hM.get 1 rfl)) rfl ?_; clear hE a; intro a hE
  replace hE := hE.cast 10 rfl (show _ = Value.int .i64 ((128 : Nat) : Int) from (congrArg (fun n : Nat => Value.int .i64 (n : Int)) hl))
  refine s_bin hE rfl rfl bin_neq rfl ?_; clear hE a; intro a hE
  replace hE := hE.cast 11 rfl (show _ = Value.bool false from (congrArg Value.bool (by decide)))
  refine q_nil ?_
  replace hE : Env a 60 [(0, _), (2, _), (3, _), (11, _)] := hE.sel [0, 2, 3, 11] rfl
  refine hK3 _ _ ?_
  refine wp_cond_false (hE.eval rfl) ?_
  refine wp_skip ?_
  refine hK2 _ _ ?_
  refine wp_seq_k (fun K4 hK4 => ?_)
  refine wp_plain [true, false, true] rfl rfl ?_
  refine s_move hE rfl rfl ?_; clear hE a; intro a hE
  refine s_call hE rfl Try.call48 (open_c bs _ _ _ (hM.get 1 rfl) (by have hl_ : bs.length = 128 := hl; first | omega | (simp; done) | (simp; omega))) rfl ?_
  rintro e w2 ⟨tb14, bb14, rfl, hbb14, hN⟩
  refine ⟨_, rfl, trivial, ?_⟩; clear hE a; intro a hE
  replace hM : Mem _ _ w2 [_, _, _] := hM.callN hN (fun e he x hx => by rw [List.mem_singleton.1 he] at hx; exact hbb14 x hx); clear hN
  refine s_assign hE rfl rfl ?_; clear hE a; intro a hE
  refine q_nil ?_
  replace hE : Env a 60 [(0, _), (2, _), (3, _), (4, _), (11, _)] := hE.sel [0, 2, 3, 4, 11] rfl
  refine hK4 _ _ ?_
  refine wp_seq_k (fun K5 hK5 => ?_)
  refine wp_plain [true, false, true, true, true] rfl rfl ?_
  refine s_move hE rfl rfl ?_; clear hE a; intro a hE
  have hlt16_1 : (bs.take 8).length = 8 := (by have hl_q : bs.length = 128 := hl; simp; try omega)
  refine s_call hE rfl Try.call56 (tapBytes_ok tb14 bb14 bs 8 _ (hM.get 0 rfl) (by have hl_ : bs.length = 128 := hl; first | omega | (simp; done) | (simp; omega))) rfl ?_
  rintro e w3 ⟨v16, rfl, hvt16_1, hN⟩
  refine ⟨_, rfl, trivial, ?_⟩; clear hE a; intro a hE
  replace hM : Mem _ _ w3 [_, _, _, _] := hM.call1 hN (fun f hf x hx => (List.mem_cons.1 hf).elim (fun h => by subst h; exact .inl (hvt16_1 x (by first | exact hx | (rw [hlt16_1] at hx; exact hx)))) (fun h => by rw [List.mem_singleton.1 h] at hx; exact .inl hx)); clear hN
  refine s_toStr hE rfl Try.underlying55 Try.underlying5 Try.underlying9 (hM.get 0 rfl) (by intro X h; cases h) rfl ?_; clear hE a; intro a hE
  refine s_bin hE rfl rfl bins_str.1 rfl ?_; clear hE a; intro a hE
  refine s_assign hE rfl rfl ?_; clear hE a; intro a hE
  refine q_nil ?_
  replace hE : Env a 60 [(0, _), (2, _), (3, _), (4, _), (5, _), (11, _)] := hE.sel [0, 2, 3, 4, 5, 11] rfl
  refine hK5 _ _ ?_
  refine wp_seq_k (fun K6 hK6 => ?_)
  refine wp_plain [true, false, true, false, false] rfl rfl ?_
  refine s_move hE rfl rfl ?_; clear hE a; intro a hE
  replace hM : Mem _ _ w3 [_, _, _, _] := hM.pick [1, 0, 2, 3] rfl
  refine s_call hE rfl Try.call57 (tapNum_ok tb14 bb14 (bs.drop 8) 8 _ (hM.get 0 rfl) rfl (by have hl_ : (bs.drop 8).length = 128 - 8 := (by have hl_q : bs.length = 128 := hl; simp; try omega); first | omega | (simp; done) | (simp; omega))) rfl ?_
  rintro e w4 ⟨rfl, hN⟩
  refine ⟨_, rfl, trivial, ?_⟩; clear hE a; intro a hE
  replace hM : Mem _ _ w4 [_, _, _, _] := hM.call1 hN (fun f hf x hx => by rw [List.mem_singleton.1 hf] at hx; exact .inl hx); clear hN
  replace hM := hM.tapEq (q := bs.drop 16) (by first | (rw [List.drop_drop]; done) | (rw [List.drop_drop]; congr 1; omega))
  refine s_buildS [[.int .u64 ((val ((bs.drop 8).take 8) : Nat) : Int)]] hE rfl zero67 rfl fpl67 (by simp [PartsOk, Value.cells, *]) rfl ?_; clear hE a; intro a hE
  replace hE := hE.cast 21 rfl (show _ = Value.agg ([[.int .u64 ((val ((bs.drop 8).take 8) : Nat) : Int)], bv (List.replicate 32 (0 : UInt8)), bv (List.replicate 32 (0 : UInt8)), bv (List.replicate 32 (0 : UInt8)), [.int .i64 0], [.int .i64 0]] : List (List Value)).flatten.toArray from (by first | rfl | simp [setAll]))
  refine s_alloc [1, 32, 32, 32, 1, 1] hE hM zero67 rfl rfl ?_; clear hE a; intro a b6 w5 hE hM'
  clear hM; have hM := hM'; clear hM'
  refine s_storeSegs 0 6 (vss := [[.int .u64 ((val ((bs.drop 8).take 8) : Nat) : Int)], bv (List.replicate 32 (0 : UInt8)), bv (List.replicate 32 (0 : UInt8)), bv (List.replicate 32 (0 : UInt8)), [.int .i64 0], [.int .i64 0]]) hE rfl rfl hM rfl sz67 (by have hl_s1 : (List.replicate 32 (0 : UInt8)).length = 32 := (by first | (simp; done) | (simp [*]; done) | (simp; omega)); have hl_s2 : (List.replicate 32 (0 : UInt8)).length = 32 := (by first | (simp; done) | (simp [*]; done) | (simp; omega)); have hl_s3 : (List.replicate 32 (0 : UInt8)).length = 32 := (by first | (simp; done) | (simp [*]; done) | (simp; omega));  simp only [List.map_cons, List.map_nil, bv_length, List.length_cons, List.length_nil, List.take_succ_cons, List.take_zero, List.drop_zero, List.drop_succ_cons, hl_s1, hl_s2, hl_s3]) (by decide) rfl (one_fl ⟨one1 rfl, bv_one _, bv_one _, bv_one _, one1 rfl, one1 rfl, trivial⟩) rfl (by intro X h; cases h) ?_; intro w6 hM'; clear hM; have hM := hM'; clear hM'
  simp only [List.take_zero, List.take_succ_cons, List.drop_zero, List.drop_succ_cons, List.take_nil, List.drop_nil, List.nil_append, List.append_nil, List.cons_append] at hM
  refine q_nil ?_
  replace hE : Env a 60 [(0, _), (2, _), (3, _), (4, _), (5, _), (6, _), (11, _)] := hE.sel [0, 2, 3, 4, 5, 6, 11] rfl
  refine hK6 _ _ ?_
  refine wp_seq_k (fun K7 hK7 => ?_)
  refine wp_seq_k (fun K8 hK8 => ?_)
  refine wp_plain [true, true, true, false, true, true] rfl rfl ?_
  refine s_fieldAddr hE rfl fo67_1 rfl ?_; clear hE a; intro a hE
  refine s_fieldAddr hE rfl fo67_2 rfl ?_; clear hE a; intro a hE
  refine s_fieldAddr hE rfl fo67_3 rfl ?_; clear hE a; intro a hE
  refine s_buildSlice (xs := [.tmp 22, .tmp 23, .tmp 24]) ([.pointer (some ⟨b6, 1, none⟩), .pointer (some ⟨b6, 33, none⟩), .pointer (some ⟨b6, 65, none⟩)]) hE hM sl111 rfl rfl rfl (by intro v hv; simp only [List.mem_cons, List.not_mem_nil, or_false] at hv; rcases hv with rfl | rfl | rfl <;> rfl) rfl rfl rfl rfl ?_; clear hE a; intro a v25 w7 hE hM'
  clear hM; have hM := hM'; clear hM'
  refine s_len hE rfl Try.underlying111 (own_slice (hM.get 0 rfl)) rfl ?_; clear hE a; intro a hE
  refine s_move hE rfl rfl ?_; clear hE a; intro a hE
  refine q_nil ?_
  replace hE : Env a 60 [(0, _), (2, _), (3, _), (4, _), (5, _), (6, _), (11, _), (25, _), (26, _), (27, _)] := hE.sel [0, 2, 3, 4, 5, 6, 11, 25, 26, 27] rfl
  refine hK8 _ _ ?_
  refine wp_block ?_
  refine wp_loop_rounds 4 (c_rounds ?_)
  refine wp_seq_k (fun K9 hK9 => ?_)
  refine wp_plain [true] rfl rfl ?_
  refine s_bin hE rfl rfl bin_lss rfl ?_; clear hE a; intro a hE
  replace hE := hE.cast 28 rfl (show _ = Value.bool true from (congrArg Value.bool (by decide)))
  refine q_nil ?_
  refine hK9 _ _ ?_
  refine wp_seq_k (fun K10 hK10 => ?_)
  refine wp_cond_true (hE.eval rfl) ?_
  refine wp_skip ?_
  refine hK10 _ _ ?_
  refine wp_seq_k (fun K11 hK11 => ?_)
  refine wp_block ?_
  refine wp_seq_k (fun K12 hK12 => ?_)
  refine wp_plain [true, true, true] rfl rfl ?_
  obtain ⟨cx29, hx29⟩ := own_rd (hM.get 0 rfl)
  refine s_indexRd (j := 0) hE rfl hx29 rfl slt111 (by first | rfl | omega) (by first | omega | (simp; omega) | (simp [*]; omega)) rfl ?_; clear hE a; intro a p29 hE hc29 hp29
  replace hc29 : (cellsAt _ [.pointer (some ⟨b6, 1, none⟩)]).holds _ := hc29
  refine s_loadAt1 hE rfl hc29 one110 (by intro X h; cases h) rfl ?_; clear hE a; intro a hE
  refine s_assign hE rfl rfl ?_; clear hE a; intro a hE
  refine q_nil ?_
  replace hE : Env a 60 [(0, _), (2, _), (3, _), (4, _), (5, _), (6, _), (8, _), (11, _), (25, _), (26, _), (27, _), (28, _)] := hE.sel [0, 2, 3, 4, 5, 6, 8, 11, 25, 26, 27, 28] rfl
  refine hK12 _ _ ?_
  refine wp_treeM hM (by kernel_rfl) (fun _ => True) (fun _ => True) (.re [(0, true), (1, true), (2, true), (3, true), (4, false), (5, false)] (.fl 4 (.fl 0 (.weak (.or 4 (.cut (.re [(5, false)] (.fl 0 (.fl 0 (.weak (.or 5 (.cut (.re [] (.weak (.leaf 0)))) (.stop))))))) (.stop)))))) [(0, true), (1, true), (2, true), (3, true), (4, false), (5, false)] [(1, [(2, 1), (5, 2)]), (2, [(5, 2)]), (4, [(5, 4)]), (5, [])] (by kernel_rfl) ?_
  intro w8 hM' hww8; clear hM; have hM := hM'; clear hM'
  refine o_re ?_
  refine o_fl rfl ?_
  refine s_move hE rfl rfl ?_; clear hE a; intro a hE
  refine s_nilCheck hE rfl rfl ?_; clear hE a; intro a hE
  refine s_sliceArr (l := 0) (h := 32) (mx' := 32) hE rfl arr27 rfl rfl rfl (by simp) (by omega) (by omega) (by omega) rfl ?_; clear hE a; intro a hE
  replace hE := hE.cast 33 rfl (show _ = Value.slice (some ⟨b6, 1, none⟩) 32 32 from rfl)
  refine s_move hE rfl rfl ?_; clear hE a; intro a hE
  refine q_nil (q_nx ?_)
  refine o_fl rfl ?_
  refine q_nil (q_nx ?_)
  refine o_weak (fun b => b ∈ [tb14]) (fun _ _ => trivial) ?_
  refine o_or rfl ?_ ?_
  · replace hM : Mem _ _ w8 [_, _, _, _, _, _] := hM.pick [2, 0, 1, 3, 4, 5] rfl
    have hlt35_2 : ((bs.drop 16).take 32).length = 32 := (by have hl_q : (bs.drop 16).length = 128 - 16 := (by have hl_q : bs.length = 128 := hl; simp; try omega); simp; try omega)
    refine s_call hE rfl Try.call56 (tapBytes_ok tb14 bb14 (bs.drop 16) 32 _ (hM.get 0 rfl) (by have hl_ : (bs.drop 16).length = 128 - 16 := (by have hl_q : bs.length = 128 := hl; simp; try omega); first | omega | (simp; done) | (simp; omega))) rfl ?_
    rintro e w9 ⟨v35, rfl, hvt35_2, hN⟩
    refine ⟨_, rfl, hN.sta, ?_⟩; clear hE a; intro a hE
    replace hM : Mem _ _ w9 [_, _, _, _, _, _, _] := hM.call1 hN (fun f hf x hx => (List.mem_cons.1 hf).elim (fun h => by subst h; exact .inl (hvt35_2 x (by first | exact hx | (rw [hlt35_2] at hx; exact hx)))) (fun h => by rw [List.mem_singleton.1 h] at hx; exact .inl hx)); clear hN
    replace hM : Mem _ _ w9 [_, _, _, _, _, _, _] := hM.pick [1, 0, 2, 3, 4, 5, 6] rfl
    replace hM := hM.tapEq (q := bs.drop 48) (by first | (rw [List.drop_drop]; done) | (rw [List.drop_drop]; congr 1; omega))
    refine q_nil (q_nx ?_)
    refine o_cut (fun _ => True) ?_
    refine o_re ?_
    refine o_fl rfl ?_
    refine q_nil (q_nx ?_)
    refine o_fl rfl ?_
    refine q_nil (q_nx ?_)
    refine o_weak (fun b => b = b6) (fun _ _ => trivial) ?_
    refine o_or rfl ?_ ?_
    · replace hM : Mem _ _ w9 [_, _, _, _, _, _, _] := hM.pick [3, 0, 1, 2, 4, 5, 6] rfl
      refine s_copySeg 1 hE rfl rfl hM (hM.get 2 rfl) hlt35_2 (bv_one _) sl55 rfl ((bv_length _).trans (by first | (simp; done) | (simp [*]; done) | (simp; omega))) rfl (by intro X h; cases h; rfl) rfl ?_; clear hE a; intro a w10 hE hM'; clear hM; have hM := hM'; clear hM'
      simp only [List.set_cons_zero, List.set_cons_succ] at hM
      refine q_nil (q_nx ?_)
      refine o_cut (fun _ => True) ?_
      refine o_re ?_
      refine o_weak (fun _ => False) (fun _ _ => trivial) ?_
      refine o_leaf rfl rfl ?_
      refine q_nil (q_ph (q_nil ?_))
      replace hE : Env a 60 [(0, _), (2, _), (3, _), (4, _), (5, _), (6, _), (8, _), (11, _), (25, _), (26, _), (27, _), (28, _)] := hE.sel [0, 2, 3, 4, 5, 6, 8, 11, 25, 26, 27, 28] rfl
      refine q_block_n ?_
      refine hK11 _ _ ?_
      refine wp_plain [true, true] rfl rfl ?_
      refine s_bin hE rfl rfl (show Bin _ _ _ _ _ (.int .i64 1) from bin_add (by rw [wrap_i64 (by omega) (by omega)]; omega)) rfl ?_; clear hE a; intro a hE
      refine s_move hE rfl rfl ?_; clear hE a; intro a hE
      refine q_nil ?_
      replace hE : Env a 60 [(0, _), (2, _), (3, _), (4, _), (5, _), (6, _), (8, _), (11, _), (25, _), (26, _), (27, _), (28, _)] := hE.sel [0, 2, 3, 4, 5, 6, 8, 11, 25, 26, 27, 28] rfl
      replace hM : Mem _ _ w10 [_, _, _, _, _, _] := hM.pick [0, 1, 3, 4, 5, 6] rfl
      refine q_then_n (c_rounds ?_)
      refine wp_seq_k (fun K13 hK13 => ?_)
      refine wp_plain [true] rfl rfl ?_
      refine s_bin hE rfl rfl bin_lss rfl ?_; clear hE a; intro a hE
      replace hE := hE.cast 28 rfl (show _ = Value.bool true from (congrArg Value.bool (by decide)))
      refine q_nil ?_
      refine hK13 _ _ ?_
      refine wp_seq_k (fun K14 hK14 => ?_)
      refine wp_cond_true (hE.eval rfl) ?_
      refine wp_skip ?_
      refine hK14 _ _ ?_
      refine wp_seq_k (fun K15 hK15 => ?_)
      refine wp_block ?_
      refine wp_seq_k (fun K16 hK16 => ?_)
      refine wp_plain [true, true, true] rfl rfl ?_
      obtain ⟨cx29, hx29⟩ := own_rd (hM.get 2 rfl)
      refine s_indexRd (j := 1) hE rfl hx29 rfl slt111 (by first | rfl | omega) (by first | omega | (simp; omega) | (simp [*]; omega)) rfl ?_; clear hE a; intro a p29 hE hc29 hp29
      replace hc29 : (cellsAt _ [.pointer (some ⟨b6, 33, none⟩)]).holds _ := hc29
      refine s_loadAt1 hE rfl hc29 one110 (by intro X h; cases h) rfl ?_; clear hE a; intro a hE
      refine s_assign hE rfl rfl ?_; clear hE a; intro a hE
      refine q_nil ?_
      replace hE : Env a 60 [(0, _), (2, _), (3, _), (4, _), (5, _), (6, _), (8, _), (11, _), (25, _), (26, _), (27, _), (28, _)] := hE.sel [0, 2, 3, 4, 5, 6, 8, 11, 25, 26, 27, 28] rfl
      refine hK16 _ _ ?_
      refine wp_treeM hM (by kernel_rfl) (fun _ => True) (fun _ => True) (.re [(0, true), (1, true), (2, true), (3, true), (4, false), (5, false)] (.fl 4 (.fl 0 (.weak (.or 4 (.cut (.re [(5, false)] (.fl 0 (.fl 0 (.weak (.or 5 (.cut (.re [] (.weak (.leaf 0)))) (.stop))))))) (.stop)))))) [(0, true), (1, true), (2, true), (3, true), (4, false), (5, false)] [(1, [(2, 1), (5, 2)]), (2, [(5, 2)]), (4, [(5, 4)]), (5, [])] (by kernel_rfl) ?_
      intro w11 hM' hww11; clear hM; have hM := hM'; clear hM'
      refine o_re ?_
      refine o_fl rfl ?_
      refine s_move hE rfl rfl ?_; clear hE a; intro a hE
      refine s_nilCheck hE rfl rfl ?_; clear hE a; intro a hE
      refine s_sliceArr (l := 0) (h := 32) (mx' := 32) hE rfl arr27 rfl rfl rfl (by simp) (by omega) (by omega) (by omega) rfl ?_; clear hE a; intro a hE
      replace hE := hE.cast 33 rfl (show _ = Value.slice (some ⟨b6, 33, none⟩) 32 32 from rfl)
      refine s_move hE rfl rfl ?_; clear hE a; intro a hE
      refine q_nil (q_nx ?_)
      refine o_fl rfl ?_
      refine q_nil (q_nx ?_)
      refine o_weak (fun b => b ∈ [tb14]) (fun _ _ => trivial) ?_
      refine o_or rfl ?_ ?_
      · replace hM : Mem _ _ w11 [_, _, _, _, _, _] := hM.pick [1, 0, 2, 3, 4, 5] rfl
        have hlt35_3 : ((bs.drop 48).take 32).length = 32 := (by have hl_q : (bs.drop 48).length = 128 - 48 := (by have hl_q : bs.length = 128 := hl; simp; try omega); simp; try omega)
        refine s_call hE rfl Try.call56 (tapBytes_ok tb14 bb14 (bs.drop 48) 32 _ (hM.get 0 rfl) (by have hl_ : (bs.drop 48).length = 128 - 48 := (by have hl_q : bs.length = 128 := hl; simp; try omega); first | omega | (simp; done) | (simp; omega))) rfl ?_
        rintro e w12 ⟨v35, rfl, hvt35_3, hN⟩
        refine ⟨_, rfl, hN.sta, ?_⟩; clear hE a; intro a hE
        replace hM : Mem _ _ w12 [_, _, _, _, _, _, _] := hM.call1 hN (fun f hf x hx => (List.mem_cons.1 hf).elim (fun h => by subst h; exact .inl (hvt35_3 x (by first | exact hx | (rw [hlt35_3] at hx; exact hx)))) (fun h => by rw [List.mem_singleton.1 h] at hx; exact .inl hx)); clear hN
        replace hM : Mem _ _ w12 [_, _, _, _, _, _, _] := hM.pick [1, 0, 2, 3, 4, 5, 6] rfl
        replace hM := hM.tapEq (q := bs.drop 80) (by first | (rw [List.drop_drop]; done) | (rw [List.drop_drop]; congr 1; omega))
        refine q_nil (q_nx ?_)
        refine o_cut (fun _ => True) ?_
        refine o_re ?_
        refine o_fl rfl ?_
        refine q_nil (q_nx ?_)
        refine o_fl rfl ?_
        refine q_nil (q_nx ?_)
        refine o_weak (fun b => b = b6) (fun _ _ => trivial) ?_
        refine o_or rfl ?_ ?_
        · replace hM : Mem _ _ w12 [_, _, _, _, _, _, _] := hM.pick [2, 0, 1, 3, 4, 5, 6] rfl
          refine s_copySeg 2 hE rfl rfl hM (hM.get 2 rfl) hlt35_3 (bv_one _) sl55 rfl ((bv_length _).trans (by first | (simp; done) | (simp [*]; done) | (simp; omega))) rfl (by intro X h; cases h; rfl) rfl ?_; clear hE a; intro a w13 hE hM'; clear hM; have hM := hM'; clear hM'
          simp only [List.set_cons_zero, List.set_cons_succ] at hM
          refine q_nil (q_nx ?_)
          refine o_cut (fun _ => True) ?_
          refine o_re ?_
          refine o_weak (fun _ => False) (fun _ _ => trivial) ?_
          refine o_leaf rfl rfl ?_
          refine q_nil (q_ph (q_nil ?_))
          replace hE : Env a 60 [(0, _), (2, _), (3, _), (4, _), (5, _), (6, _), (8, _), (11, _), (25, _), (26, _), (27, _), (28, _)] := hE.sel [0, 2, 3, 4, 5, 6, 8, 11, 25, 26, 27, 28] rfl
          refine q_block_n ?_
          refine hK15 _ _ ?_
          refine wp_plain [true, true] rfl rfl ?_
          refine s_bin hE rfl rfl (show Bin _ _ _ _ _ (.int .i64 2) from bin_add (by rw [wrap_i64 (by omega) (by omega)]; omega)) rfl ?_; clear hE a; intro a hE
          refine s_move hE rfl rfl ?_; clear hE a; intro a hE
          refine q_nil ?_
          replace hE : Env a 60 [(0, _), (2, _), (3, _), (4, _), (5, _), (6, _), (8, _), (11, _), (25, _), (26, _), (27, _), (28, _)] := hE.sel [0, 2, 3, 4, 5, 6, 8, 11, 25, 26, 27, 28] rfl
          replace hM : Mem _ _ w13 [_, _, _, _, _, _] := hM.pick [0, 1, 3, 4, 5, 6] rfl
          refine q_then_n (c_rounds ?_)
          refine wp_seq_k (fun K17 hK17 => ?_)
          refine wp_plain [true] rfl rfl ?_
          refine s_bin hE rfl rfl bin_lss rfl ?_; clear hE a; intro a hE
          replace hE := hE.cast 28 rfl (show _ = Value.bool true from (congrArg Value.bool (by decide)))
          refine q_nil ?_
          refine hK17 _ _ ?_
          refine wp_seq_k (fun K18 hK18 => ?_)
          refine wp_cond_true (hE.eval rfl) ?_
          refine wp_skip ?_
          refine hK18 _ _ ?_
          refine wp_seq_k (fun K19 hK19 => ?_)
          refine wp_block ?_
          refine wp_seq_k (fun K20 hK20 => ?_)
          refine wp_plain [true, true, true] rfl rfl ?_
          obtain ⟨cx29, hx29⟩ := own_rd (hM.get 2 rfl)
          refine s_indexRd (j := 2) hE rfl hx29 rfl slt111 (by first | rfl | omega) (by first | omega | (simp; omega) | (simp [*]; omega)) rfl ?_; clear hE a; intro a p29 hE hc29 hp29
          replace hc29 : (cellsAt _ [.pointer (some ⟨b6, 65, none⟩)]).holds _ := hc29
          refine s_loadAt1 hE rfl hc29 one110 (by intro X h; cases h) rfl ?_; clear hE a; intro a hE
          refine s_assign hE rfl rfl ?_; clear hE a; intro a hE
          refine q_nil ?_
          replace hE : Env a 60 [(0, _), (2, _), (3, _), (4, _), (5, _), (6, _), (8, _), (11, _), (25, _), (26, _), (27, _), (28, _)] := hE.sel [0, 2, 3, 4, 5, 6, 8, 11, 25, 26, 27, 28] rfl
          refine hK20 _ _ ?_
          refine wp_treeM hM (by kernel_rfl) (fun _ => True) (fun _ => True) (.re [(0, true), (1, true), (2, true), (3, true), (4, false), (5, false)] (.fl 4 (.fl 0 (.weak (.or 4 (.cut (.re [(5, false)] (.fl 0 (.fl 0 (.weak (.or 5 (.cut (.re [] (.weak (.leaf 0)))) (.stop))))))) (.stop)))))) [(0, true), (1, true), (2, true), (3, true), (4, false), (5, false)] [(1, [(2, 1), (5, 2)]), (2, [(5, 2)]), (4, [(5, 4)]), (5, [])] (by kernel_rfl) ?_
          intro w14 hM' hww14; clear hM; have hM := hM'; clear hM'
          refine o_re ?_
          refine o_fl rfl ?_
          refine s_move hE rfl rfl ?_; clear hE a; intro a hE
          refine s_nilCheck hE rfl rfl ?_; clear hE a; intro a hE
          refine s_sliceArr (l := 0) (h := 32) (mx' := 32) hE rfl arr27 rfl rfl rfl (by simp) (by omega) (by omega) (by omega) rfl ?_; clear hE a; intro a hE
          replace hE := hE.cast 33 rfl (show _ = Value.slice (some ⟨b6, 65, none⟩) 32 32 from rfl)
          refine s_move hE rfl rfl ?_; clear hE a; intro a hE
          refine q_nil (q_nx ?_)
          refine o_fl rfl ?_
          refine q_nil (q_nx ?_)
          refine o_weak (fun b => b ∈ [tb14]) (fun _ _ => trivial) ?_
          refine o_or rfl ?_ ?_
          · replace hM : Mem _ _ w14 [_, _, _, _, _, _] := hM.pick [1, 0, 2, 3, 4, 5] rfl
            have hlt35_4 : ((bs.drop 80).take 32).length = 32 := (by have hl_q : (bs.drop 80).length = 128 - 80 := (by have hl_q : bs.length = 128 := hl; simp; try omega); simp; try omega)
            refine s_call hE rfl Try.call56 (tapBytes_ok tb14 bb14 (bs.drop 80) 32 _ (hM.get 0 rfl) (by have hl_ : (bs.drop 80).length = 128 - 80 := (by have hl_q : bs.length = 128 := hl; simp; try omega); first | omega | (simp; done) | (simp; omega))) rfl ?_
            rintro e w15 ⟨v35, rfl, hvt35_4, hN⟩
            refine ⟨_, rfl, hN.sta, ?_⟩; clear hE a; intro a hE
            replace hM : Mem _ _ w15 [_, _, _, _, _, _, _] := hM.call1 hN (fun f hf x hx => (List.mem_cons.1 hf).elim (fun h => by subst h; exact .inl (hvt35_4 x (by first | exact hx | (rw [hlt35_4] at hx; exact hx)))) (fun h => by rw [List.mem_singleton.1 h] at hx; exact .inl hx)); clear hN
            replace hM : Mem _ _ w15 [_, _, _, _, _, _, _] := hM.pick [1, 0, 2, 3, 4, 5, 6] rfl
            replace hM := hM.tapEq (q := bs.drop 112) (by first | (rw [List.drop_drop]; done) | (rw [List.drop_drop]; congr 1; omega))
            refine q_nil (q_nx ?_)
            refine o_cut (fun _ => True) ?_
            refine o_re ?_
            refine o_fl rfl ?_
            refine q_nil (q_nx ?_)
            refine o_fl rfl ?_
            refine q_nil (q_nx ?_)
            refine o_weak (fun b => b = b6) (fun _ _ => trivial) ?_
            refine o_or rfl ?_ ?_
            · replace hM : Mem _ _ w15 [_, _, _, _, _, _, _] := hM.pick [2, 0, 1, 3, 4, 5, 6] rfl
              refine s_copySeg 3 hE rfl rfl hM (hM.get 2 rfl) hlt35_4 (bv_one _) sl55 rfl ((bv_length _).trans (by first | (simp; done) | (simp [*]; done) | (simp; omega))) rfl (by intro X h; cases h; rfl) rfl ?_; clear hE a; intro a w16 hE hM'; clear hM; have hM := hM'; clear hM'
              simp only [List.set_cons_zero, List.set_cons_succ] at hM
              refine q_nil (q_nx ?_)
              refine o_cut (fun _ => True) ?_
              refine o_re ?_
              refine o_weak (fun _ => False) (fun _ _ => trivial) ?_
              refine o_leaf rfl rfl ?_
              refine q_nil (q_ph (q_nil ?_))
              replace hE : Env a 60 [(0, _), (2, _), (3, _), (4, _), (5, _), (6, _), (8, _), (11, _), (25, _), (26, _), (27, _), (28, _)] := hE.sel [0, 2, 3, 4, 5, 6, 8, 11, 25, 26, 27, 28] rfl
              refine q_block_n ?_
              refine hK19 _ _ ?_
              refine wp_plain [true, true] rfl rfl ?_
              refine s_bin hE rfl rfl (show Bin _ _ _ _ _ (.int .i64 3) from bin_add (by rw [wrap_i64 (by omega) (by omega)]; omega)) rfl ?_; clear hE a; intro a hE
              refine s_move hE rfl rfl ?_; clear hE a; intro a hE
              refine q_nil ?_
              replace hE : Env a 60 [(0, _), (2, _), (3, _), (4, _), (5, _), (6, _), (8, _), (11, _), (25, _), (26, _), (27, _), (28, _)] := hE.sel [0, 2, 3, 4, 5, 6, 8, 11, 25, 26, 27, 28] rfl
              replace hM : Mem _ _ w16 [_, _, _, _, _, _] := hM.pick [0, 1, 3, 4, 5, 6] rfl
              refine q_then_n (c_rounds ?_)
              refine wp_seq_k (fun K21 hK21 => ?_)
              refine wp_plain [true] rfl rfl ?_
              refine s_bin hE rfl rfl bin_lss rfl ?_; clear hE a; intro a hE
              replace hE := hE.cast 28 rfl (show _ = Value.bool false from (congrArg Value.bool (by decide)))
              refine q_nil ?_
              refine hK21 _ _ ?_
              refine wp_seq_k (fun K22 hK22 => ?_)
              refine wp_cond_false (hE.eval rfl) ?_
              refine wp_exit ?_
              refine q_then_e ?_
              refine q_then_e ?_
              refine q_block_x ?_
              refine hK7 _ _ ?_
              refine wp_seq_k (fun K23 hK23 => ?_)
              refine wp_plain [true, false, true, true, false, true, true, false, true, false] rfl rfl ?_
              refine s_move hE rfl rfl ?_; clear hE a; intro a hE
              replace hM : Mem _ _ w16 [_, _, _, _, _, _] := hM.pick [1, 0, 2, 3, 4, 5] rfl
              refine s_call hE rfl Try.call57 (tapNum_ok tb14 bb14 (bs.drop 112) 4 _ (hM.get 0 rfl) rfl (by have hl_ : (bs.drop 112).length = 128 - 112 := (by have hl_q : bs.length = 128 := hl; simp; try omega); first | omega | (simp; done) | (simp; omega))) rfl ?_
              rintro e w17 ⟨rfl, hN⟩
              refine ⟨_, rfl, trivial, ?_⟩; clear hE a; intro a hE
              replace hM : Mem _ _ w17 [_, _, _, _, _, _] := hM.call1 hN (fun f hf x hx => by rw [List.mem_singleton.1 hf] at hx; exact .inl hx); clear hN
              replace hM := hM.tapEq (q := bs.drop 116) (by first | (rw [List.drop_drop]; done) | (rw [List.drop_drop]; congr 1; omega))
              refine s_conv hE rfl (cnv_int Try.underlying24 Try.underlying3 (wrap_i64 (by omega) (by omega))) rfl ?_; clear hE a; intro a hE
              refine s_move hE rfl rfl ?_; clear hE a; intro a hE
              refine s_call hE rfl Try.call57 (tapNum_ok tb14 bb14 (bs.drop 116) 4 _ (hM.get 0 rfl) rfl (by have hl_ : (bs.drop 116).length = 128 - 116 := (by have hl_q : bs.length = 128 := hl; simp; try omega); first | omega | (simp; done) | (simp; omega))) rfl ?_
              rintro e w18 ⟨rfl, hN⟩
              refine ⟨_, rfl, trivial, ?_⟩; clear hE a; intro a hE
              replace hM : Mem _ _ w18 [_, _, _, _, _, _] := hM.call1 hN (fun f hf x hx => by rw [List.mem_singleton.1 hf] at hx; exact .inl hx); clear hN
              replace hM := hM.tapEq (q := bs.drop 120) (by first | (rw [List.drop_drop]; done) | (rw [List.drop_drop]; congr 1; omega))
              refine s_conv hE rfl (cnv_int Try.underlying24 Try.underlying3 (wrap_i64 (by omega) (by omega))) rfl ?_; clear hE a; intro a hE
              refine s_fieldAddr hE rfl fo67_4 rfl ?_; clear hE a; intro a hE
              replace hM : Mem _ _ w18 [_, _, _, _, _, _] := hM.pick [1, 0, 2, 3, 4, 5] rfl
              refine s_store1 4 hE rfl rfl hM rfl rfl sz3 rfl rfl (by intro X h; cases h) ?_; intro w19 hM'; clear hM; have hM := hM'; clear hM'
              refine s_fieldAddr hE rfl fo67_5 rfl ?_; clear hE a; intro a hE
              refine s_store1 5 hE rfl rfl hM rfl rfl sz3 rfl rfl (by intro X h; cases h) ?_; intro w20 hM'; clear hM; have hM := hM'; clear hM'
              refine q_nil ?_
              replace hE : Env a 60 [(0, _), (2, _), (3, _), (4, _), (5, _), (6, _), (8, _), (11, _), (25, _), (26, _), (27, _), (28, _)] := hE.sel [0, 2, 3, 4, 5, 6, 8, 11, 25, 26, 27, 28] rfl
              refine hK23 _ _ ?_
              refine wp_seq_k (fun K24 hK24 => ?_)
              refine wp_seq_k (fun K25 hK25 => ?_)
              refine wp_plain [true, true, true, true, false, true, true, true, true, false, true, true] rfl rfl ?_
              refine s_move hE rfl rfl ?_; clear hE a; intro a hE
              refine s_not hE rfl rfl ?_; clear hE a; intro a hE
              refine s_move hE rfl rfl ?_; clear hE a; intro a hE
              replace hE := hE.cast 48 rfl (show _ = Value.bool false from (congrArg Value.bool (by simp [hmk, markR])))
              refine g_yes hE rfl rfl ?_
              refine s_move hE rfl rfl ?_; clear hE a; intro a hE
              refine g_yes hE rfl rfl ?_
              replace hM : Mem _ _ w20 [_, _, _, _, _, _] := hM.pick [1, 0, 2, 3, 4, 5] rfl
              refine s_call hE rfl Try.call57 (tapNum_ok tb14 bb14 (bs.drop 120) 8 _ (hM.get 0 rfl) rfl (by have hl_ : (bs.drop 120).length = 128 - 120 := (by have hl_q : bs.length = 128 := hl; simp; try omega); first | omega | (simp; done) | (simp; omega))) rfl ?_
              rintro e w21 ⟨rfl, hN⟩
              refine ⟨_, rfl, trivial, ?_⟩; clear hE a; intro a hE
              replace hM : Mem _ _ w21 [_, _, _, _, _, _] := hM.call1 hN (fun f hf x hx => by rw [List.mem_singleton.1 hf] at hx; exact .inl hx); clear hN
              replace hM := hM.tapEq (q := bs.drop 128) (by first | (rw [List.drop_drop]; done) | (rw [List.drop_drop]; congr 1; omega))
              refine g_yes hE rfl rfl ?_
              refine s_bin hE rfl rfl bin_neq rfl ?_; clear hE a; intro a hE
              refine s_pickf hE rfl rfl rfl ?_; clear hE a; intro a hE
              refine s_move hE rfl rfl ?_; clear hE a; intro a hE
              replace hE := hE.cast 53 rfl (show _ = Value.bool false from (congrArg Value.bool (by first | rfl | simp [hv0])))
              refine g_yes hE rfl rfl ?_
              refine s_loadN hE rfl (hM.get 1 rfl) row67 rfl (by intro X h; cases h) rfl ?_; clear hE a; intro a hE
              replace hE := hE.cast 54 rfl (show _ = Value.agg ([[.int .u64 ((val ((bs.drop 8).take 8) : Nat) : Int)], bv ((bs.drop 16).take 32), bv ((bs.drop 48).take 32), bv ((bs.drop 80).take 32), [.int .i64 ((val ((bs.drop 112).take 4) : Nat) : Int)], [.int .i64 ((val ((bs.drop 116).take 4) : Nat) : Int)]] : List (List Value)).flatten.toArray from (by first | rfl | simp))
              refine g_yes hE rfl rfl ?_
              refine s_call hE rfl Try.call51 (root_c (val ((bs.drop 8).take 8)) ((bs.drop 16).take 32) ((bs.drop 48).take 32) ((bs.drop 80).take 32) ((val ((bs.drop 112).take 4) : Nat) : Int) ((val ((bs.drop 116).take 4) : Nat) : Int) _ hlt35_2 hlt35_3 hlt35_4) rfl ?_
              rintro e w22 ⟨rfl, hN⟩
              refine ⟨_, rfl, trivial, ?_⟩; clear hE a; intro a hE
              replace hM : Mem _ _ w22 [_, _, _, _, _, _] := hM.call0 hN trivial; clear hN
              refine g_yes hE rfl rfl ?_
              refine s_not hE rfl rfl ?_; clear hE a; intro a hE
              refine s_pickf hE rfl rfl rfl ?_; clear hE a; intro a hE
              refine q_nil ?_
              replace hE : Env a 60 [(0, _), (2, _), (3, _), (4, _), (6, _), (8, _), (11, _), (25, _), (26, _), (27, _), (28, _), (57, _)] := hE.sel [0, 2, 3, 4, 6, 8, 11, 25, 26, 27, 28, 57] rfl
              refine hK25 _ _ ?_
              replace hE := hE.cast 57 rfl (show _ = Value.bool false from (congrArg Value.bool (by first | rfl | (rw [show rootOk (val ((bs.drop 8).take 8)) (val ((bs.drop 112).take 4)) (val ((bs.drop 116).take 4)) = true from hro]; rfl))))
              refine wp_cond_false (hE.eval rfl) ?_
              refine wp_skip ?_
              refine hK24 _ _ ?_
              refine wp_seq_k (fun K26 hK26 => ?_)
              refine wp_plain [true, false, true] rfl rfl ?_
              refine s_loadN hE rfl (hM.get 1 rfl) row67 rfl (by intro X h; cases h) rfl ?_; clear hE a; intro a hE
              replace hE := hE.cast 59 rfl (show _ = Value.agg ([[.int .u64 ((val ((bs.drop 8).take 8) : Nat) : Int)], bv ((bs.drop 16).take 32), bv ((bs.drop 48).take 32), bv ((bs.drop 80).take 32), [.int .i64 ((val ((bs.drop 112).take 4) : Nat) : Int)], [.int .i64 ((val ((bs.drop 116).take 4) : Nat) : Int)]] : List (List Value)).flatten.toArray from (by first | rfl | simp))
              replace hM : Mem _ _ w22 [_, _, _, _, _, _] := hM.pick [4, 0, 1, 2, 3, 5] rfl
              refine s_storeSegs 0 6 (vss := [[.int .u64 ((val ((bs.drop 8).take 8) : Nat) : Int)], bv ((bs.drop 16).take 32), bv ((bs.drop 48).take 32), bv ((bs.drop 80).take 32), [.int .i64 ((val ((bs.drop 112).take 4) : Nat) : Int)], [.int .i64 ((val ((bs.drop 116).take 4) : Nat) : Int)]]) hE rfl rfl hM rfl sz67 (by have hl_s1 : ((bs.drop 16).take 32).length = 32 := hlt35_2; have hl_s2 : ((bs.drop 48).take 32).length = 32 := hlt35_3; have hl_s3 : ((bs.drop 80).take 32).length = 32 := hlt35_4;  simp only [List.map_cons, List.map_nil, bv_length, List.length_cons, List.length_nil, List.take_succ_cons, List.take_zero, List.drop_zero, List.drop_succ_cons, hl_s1, hl_s2, hl_s3]) (by decide) rfl (one_fl ⟨one1 rfl, bv_one _, bv_one _, bv_one _, one1 rfl, one1 rfl, trivial⟩) rfl (by intro X h; cases h) ?_; intro w23 hM'; clear hM; have hM := hM'; clear hM'
              simp only [List.take_zero, List.take_succ_cons, List.drop_zero, List.drop_succ_cons, List.take_nil, List.drop_nil, List.nil_append, List.append_nil, List.cons_append] at hM
              refine s_assign hE rfl rfl ?_; clear hE a; intro a hE
              refine q_nil ?_
              replace hE : Env a 60 [(0, _), (2, _), (3, _), (4, _), (6, _), (8, _), (11, _), (25, _), (26, _), (27, _), (28, _), (57, _)] := hE.sel [0, 2, 3, 4, 6, 8, 11, 25, 26, 27, 28, 57] rfl
              refine hK26 _ _ ?_
              refine wp_ret ?_
              refine f_ret2 hE rfl (res_cellN rfl (hM.get 0 rfl) row67 rfl) rfl ?_
              exact ⟨(by first | rfl | simp), hM.pick [] rfl⟩
            trivial
          trivial
        trivial
      trivial
    trivial
  trivial
theorem getroot_len (v : Value) (bs : List UInt8) (c : Nat) (w : World) (hr_bs : (rd v 1 bs.length c (bv bs)).holds w) (h : bs.length ≠ 128) : Calls Try.prog 28 #[v] w fun e w' => e = .returned (.tuple #[.agg ([[.int .u64 0], bv (List.replicate 32 (0 : UInt8)), bv (List.replicate 32 (0 : UInt8)), bv (List.replicate 32 (0 : UInt8)), [.int .i64 0], [.int .i64 0]] : List (List Value)).flatten.toArray, .int .i64 4]) ∧ Mem w [] w' [] := by
  have hM : Mem w [] w [rd v 1 bs.length c (bv bs)] := Mem.startR w (fun g hg => by
    simp only [List.mem_cons, List.not_mem_nil, or_false] at hg
    rcases hg with rfl
    · exact ⟨hr_bs, rfl⟩)
  refine f_enter 60 Try.func28 rfl rfl rfl ?_
  intro a hE
  replace hE : Env a 60 [(0, _)] := hE
  refine wp_seq_k (fun K1 hK1 => ?_)
  refine wp_plain [false, true] rfl rfl ?_
  refine s_alloc [1, 32, 32, 32, 1, 1] hE hM zero67 rfl rfl ?_; clear hE a; intro a b2 w1 hE hM'
  clear hM; have hM := hM'; clear hM'
  refine s_assign hE rfl rfl ?_; clear hE a; intro a hE
  refine q_nil ?_
  refine hK1 _ _ ?_
  refine wp_seq_k (fun K2 hK2 => ?_)
  refine wp_seq_k (fun K3 hK3 => ?_)
  refine wp_plain [true, true, true] rfl rfl ?_
  refine s_move hE rfl rfl ?_; clear hE a; intro a hE
  refine s_len hE rfl Try.underlying55 (rd_slice (hM.get 1 rfl)) rfl ?_; clear hE a; intro a hE
  refine s_bin hE rfl rfl bin_neq rfl ?_; clear hE a; intro a hE
  refine q_nil ?_
  replace hE : Env a 60 [(0, _), (2, _), (3, _), (11, _)] := hE.sel [0, 2, 3, 11] rfl
  refine hK3 _ _ ?_
  replace hE := hE.cast 11 rfl (show _ = Value.bool true from (congrArg Value.bool (by simp; omega)))
  refine wp_cond_true (hE.eval rfl) ?_
  refine wp_seq_k (fun K4 hK4 => ?_)
  refine wp_plain [true, false, true] rfl rfl ?_
  refine s_buildS [] hE rfl zero67 rfl fpl67 (by simp [PartsOk, Value.cells, *]) rfl ?_; clear hE a; intro a hE
  replace hE := hE.cast 12 rfl (show _ = Value.agg ([[.int .u64 0], bv (List.replicate 32 (0 : UInt8)), bv (List.replicate 32 (0 : UInt8)), bv (List.replicate 32 (0 : UInt8)), [.int .i64 0], [.int .i64 0]] : List (List Value)).flatten.toArray from (by first | rfl | simp [setAll]))
  refine s_storeSegs 0 6 (vss := [[.int .u64 0], bv (List.replicate 32 (0 : UInt8)), bv (List.replicate 32 (0 : UInt8)), bv (List.replicate 32 (0 : UInt8)), [.int .i64 0], [.int .i64 0]]) hE rfl rfl hM rfl sz67 (by have hl_s1 : (List.replicate 32 (0 : UInt8)).length = 32 := (by first | (simp; done) | (simp [*]; done) | (simp; omega)); have hl_s2 : (List.replicate 32 (0 : UInt8)).length = 32 := (by first | (simp; done) | (simp [*]; done) | (simp; omega)); have hl_s3 : (List.replicate 32 (0 : UInt8)).length = 32 := (by first | (simp; done) | (simp [*]; done) | (simp; omega));  simp only [List.map_cons, List.map_nil, bv_length, List.length_cons, List.length_nil, List.take_succ_cons, List.take_zero, List.drop_zero, List.drop_succ_cons, hl_s1, hl_s2, hl_s3]) (by decide) rfl (one_fl ⟨one1 rfl, bv_one _, bv_one _, bv_one _, one1 rfl, one1 rfl, trivial⟩) rfl (by intro X h; cases h) ?_; intro w2 hM'; clear hM; have hM := hM'; clear hM'
  simp only [List.take_zero, List.take_succ_cons, List.drop_zero, List.drop_succ_cons, List.take_nil, List.drop_nil, List.nil_append, List.append_nil, List.cons_append] at hM
  refine s_assign hE rfl rfl ?_; clear hE a; intro a hE
  refine q_nil ?_
  replace hE : Env a 60 [(0, _), (2, _), (3, _), (11, _)] := hE.sel [0, 2, 3, 11] rfl
  refine hK4 _ _ ?_
  refine wp_ret ?_
  refine q_then_r ?_
  refine f_ret2 hE rfl (res_cellN rfl (hM.get 0 rfl) row67 rfl) rfl ?_
  exact ⟨(by first | rfl | simp), hM.pick [] rfl⟩
theorem getroot_bad (v : Value) (bs : List UInt8) (c : Nat) (w : World) (hr_bs : (rd v 1 bs.length c (bv bs)).holds w) (hl : bs.length = 128) (h : getOk bs = false) : Calls Try.prog 28 #[v] w fun e w' => e = .returned (.tuple #[.agg ([[.int .u64 0], bv (List.replicate 32 (0 : UInt8)), bv (List.replicate 32 (0 : UInt8)), bv (List.replicate 32 (0 : UInt8)), [.int .i64 0], [.int .i64 0]] : List (List Value)).flatten.toArray, .int .i64 4]) ∧ Mem w [] w' [] := by
  have hv4a := val4 (l := (bs.drop 112).take 4) (by simp [hl])
  have hv4b := val4 (l := (bs.drop 116).take 4) (by simp [hl])
  have hv8 := val8 (l := (bs.drop 8).take 8) (by simp [hl])
  have hM : Mem w [] w [rd v 1 bs.length c (bv bs)] := Mem.startR w (fun g hg => by
    simp only [List.mem_cons, List.not_mem_nil, or_false] at hg
    rcases hg with rfl
    · exact ⟨hr_bs, rfl⟩)
  refine f_enter 60 Try.func28 rfl rfl rfl ?_
  intro a hE
  replace hE : Env a 60 [(0, _)] := hE
  refine wp_seq_k (fun K1 hK1 => ?_)
  refine wp_plain [false, true] rfl rfl ?_
  refine s_alloc [1, 32, 32, 32, 1, 1] hE hM zero67 rfl rfl ?_; clear hE a; intro a b2 w1 hE hM'
  clear hM; have hM := hM'; clear hM'
  refine s_assign hE rfl rfl ?_; clear hE a; intro a hE
  refine q_nil ?_
  refine hK1 _ _ ?_
  refine wp_seq_k (fun K2 hK2 => ?_)
  refine wp_seq_k (fun K3 hK3 => ?_)
  refine wp_plain [true, true, true] rfl rfl ?_
  refine s_move hE rfl rfl ?_; clear hE a; intro a hE
  refine s_len hE rfl Try.underlying55 (rd_slice (hM.get 1 rfl)) rfl ?_; clear hE a; intro a hE
  replace hE := hE.cast 10 rfl (show _ = Value.int .i64 ((128 : Nat) : Int) from (congrArg (fun n : Nat => Value.int .i64 (n : Int)) hl))
  refine s_bin hE rfl rfl bin_neq rfl ?_; clear hE a; intro a hE
  replace hE := hE.cast 11 rfl (show _ = Value.bool false from (congrArg Value.bool (by decide)))
  refine q_nil ?_
  replace hE : Env a 60 [(0, _), (2, _), (3, _), (11, _)] := hE.sel [0, 2, 3, 11] rfl
  refine hK3 _ _ ?_
  refine wp_cond_false (hE.eval rfl) ?_
  refine wp_skip ?_
  refine hK2 _ _ ?_
  refine wp_seq_k (fun K4 hK4 => ?_)
  refine wp_plain [true, false, true] rfl rfl ?_
  refine s_move hE rfl rfl ?_; clear hE a; intro a hE
  refine s_call hE rfl Try.call48 (open_c bs _ _ _ (hM.get 1 rfl) (by have hl_ : bs.length = 128 := hl; first | omega | (simp; done) | (simp; omega))) rfl ?_
  rintro e w2 ⟨tb14, bb14, rfl, hbb14, hN⟩
  refine ⟨_, rfl, trivial, ?_⟩; clear hE a; intro a hE
  replace hM : Mem _ _ w2 [_, _, _] := hM.callN hN (fun e he x hx => by rw [List.mem_singleton.1 he] at hx; exact hbb14 x hx); clear hN
  refine s_assign hE rfl rfl ?_; clear hE a; intro a hE
  refine q_nil ?_
  replace hE : Env a 60 [(0, _), (2, _), (3, _), (4, _), (11, _)] := hE.sel [0, 2, 3, 4, 11] rfl
  refine hK4 _ _ ?_
  refine wp_seq_k (fun K5 hK5 => ?_)
  refine wp_plain [true, false, true, true, true] rfl rfl ?_
  refine s_move hE rfl rfl ?_; clear hE a; intro a hE
  have hlt16_1 : (bs.take 8).length = 8 := (by have hl_q : bs.length = 128 := hl; simp; try omega)
  refine s_call hE rfl Try.call56 (tapBytes_ok tb14 bb14 bs 8 _ (hM.get 0 rfl) (by have hl_ : bs.length = 128 := hl; first | omega | (simp; done) | (simp; omega))) rfl ?_
  rintro e w3 ⟨v16, rfl, hvt16_1, hN⟩
  refine ⟨_, rfl, trivial, ?_⟩; clear hE a; intro a hE
  replace hM : Mem _ _ w3 [_, _, _, _] := hM.call1 hN (fun f hf x hx => (List.mem_cons.1 hf).elim (fun h => by subst h; exact .inl (hvt16_1 x (by first | exact hx | (rw [hlt16_1] at hx; exact hx)))) (fun h => by rw [List.mem_singleton.1 h] at hx; exact .inl hx)); clear hN
  refine s_toStr hE rfl Try.underlying55 Try.underlying5 Try.underlying9 (hM.get 0 rfl) (by intro X h; cases h) rfl ?_; clear hE a; intro a hE
  refine s_bin hE rfl rfl bins_str.1 rfl ?_; clear hE a; intro a hE
  refine s_assign hE rfl rfl ?_; clear hE a; intro a hE
  refine q_nil ?_
  replace hE : Env a 60 [(0, _), (2, _), (3, _), (4, _), (5, _), (11, _)] := hE.sel [0, 2, 3, 4, 5, 11] rfl
  refine hK5 _ _ ?_
  refine wp_seq_k (fun K6 hK6 => ?_)
  refine wp_plain [true, false, true, false, false] rfl rfl ?_
  refine s_move hE rfl rfl ?_; clear hE a; intro a hE
  replace hM : Mem _ _ w3 [_, _, _, _] := hM.pick [1, 0, 2, 3] rfl
  refine s_call hE rfl Try.call57 (tapNum_ok tb14 bb14 (bs.drop 8) 8 _ (hM.get 0 rfl) rfl (by have hl_ : (bs.drop 8).length = 128 - 8 := (by have hl_q : bs.length = 128 := hl; simp; try omega); first | omega | (simp; done) | (simp; omega))) rfl ?_
  rintro e w4 ⟨rfl, hN⟩
  refine ⟨_, rfl, trivial, ?_⟩; clear hE a; intro a hE
  replace hM : Mem _ _ w4 [_, _, _, _] := hM.call1 hN (fun f hf x hx => by rw [List.mem_singleton.1 hf] at hx; exact .inl hx); clear hN
  replace hM := hM.tapEq (q := bs.drop 16) (by first | (rw [List.drop_drop]; done) | (rw [List.drop_drop]; congr 1; omega))
  refine s_buildS [[.int .u64 ((val ((bs.drop 8).take 8) : Nat) : Int)]] hE rfl zero67 rfl fpl67 (by simp [PartsOk, Value.cells, *]) rfl ?_; clear hE a; intro a hE
  replace hE := hE.cast 21 rfl (show _ = Value.agg ([[.int .u64 ((val ((bs.drop 8).take 8) : Nat) : Int)], bv (List.replicate 32 (0 : UInt8)), bv (List.replicate 32 (0 : UInt8)), bv (List.replicate 32 (0 : UInt8)), [.int .i64 0], [.int .i64 0]] : List (List Value)).flatten.toArray from (by first | rfl | simp [setAll]))
  refine s_alloc [1, 32, 32, 32, 1, 1] hE hM zero67 rfl rfl ?_; clear hE a; intro a b6 w5 hE hM'
  clear hM; have hM := hM'; clear hM'
  refine s_storeSegs 0 6 (vss := [[.int .u64 ((val ((bs.drop 8).take 8) : Nat) : Int)], bv (List.replicate 32 (0 : UInt8)), bv (List.replicate 32 (0 : UInt8)), bv (List.replicate 32 (0 : UInt8)), [.int .i64 0], [.int .i64 0]]) hE rfl rfl hM rfl sz67 (by have hl_s1 : (List.replicate 32 (0 : UInt8)).length = 32 := (by first | (simp; done) | (simp [*]; done) | (simp; omega)); have hl_s2 : (List.replicate 32 (0 : UInt8)).length = 32 := (by first | (simp; done) | (simp [*]; done) | (simp; omega)); have hl_s3 : (List.replicate 32 (0 : UInt8)).length = 32 := (by first | (simp; done) | (simp [*]; done) | (simp; omega));  simp only [List.map_cons, List.map_nil, bv_length, List.length_cons, List.length_nil, List.take_succ_cons, List.take_zero, List.drop_zero, List.drop_succ_cons, hl_s1, hl_s2, hl_s3]) (by decide) rfl (one_fl ⟨one1 rfl, bv_one _, bv_one _, bv_one _, one1 rfl, one1 rfl, trivial⟩) rfl (by intro X h; cases h) ?_; intro w6 hM'; clear hM; have hM := hM'; clear hM'
  simp only [List.take_zero, List.take_succ_cons, List.drop_zero, List.drop_succ_cons, List.take_nil, List.drop_nil, List.nil_append, List.append_nil, List.cons_append] at hM
  refine q_nil ?_
  replace hE : Env a 60 [(0, _), (2, _), (3, _), (4, _), (5, _), (6, _), (11, _)] := hE.sel [0, 2, 3, 4, 5, 6, 11] rfl
  refine hK6 _ _ ?_
  refine wp_seq_k (fun K7 hK7 => ?_)
  refine wp_seq_k (fun K8 hK8 => ?_)
  refine wp_plain [true, true, true, false, true, true] rfl rfl ?_
  refine s_fieldAddr hE rfl fo67_1 rfl ?_; clear hE a; intro a hE
  refine s_fieldAddr hE rfl fo67_2 rfl ?_; clear hE a; intro a hE
  refine s_fieldAddr hE rfl fo67_3 rfl ?_; clear hE a; intro a hE
  refine s_buildSlice (xs := [.tmp 22, .tmp 23, .tmp 24]) ([.pointer (some ⟨b6, 1, none⟩), .pointer (some ⟨b6, 33, none⟩), .pointer (some ⟨b6, 65, none⟩)]) hE hM sl111 rfl rfl rfl (by intro v hv; simp only [List.mem_cons, List.not_mem_nil, or_false] at hv; rcases hv with rfl | rfl | rfl <;> rfl) rfl rfl rfl rfl ?_; clear hE a; intro a v25 w7 hE hM'
  clear hM; have hM := hM'; clear hM'
  refine s_len hE rfl Try.underlying111 (own_slice (hM.get 0 rfl)) rfl ?_; clear hE a; intro a hE
  refine s_move hE rfl rfl ?_; clear hE a; intro a hE
  refine q_nil ?_
  replace hE : Env a 60 [(0, _), (2, _), (3, _), (4, _), (5, _), (6, _), (11, _), (25, _), (26, _), (27, _)] := hE.sel [0, 2, 3, 4, 5, 6, 11, 25, 26, 27] rfl
  refine hK8 _ _ ?_
  refine wp_block ?_
  refine wp_loop_rounds 4 (c_rounds ?_)
  refine wp_seq_k (fun K9 hK9 => ?_)
  refine wp_plain [true] rfl rfl ?_
  refine s_bin hE rfl rfl bin_lss rfl ?_; clear hE a; intro a hE
  replace hE := hE.cast 28 rfl (show _ = Value.bool true from (congrArg Value.bool (by decide)))
  refine q_nil ?_
  refine hK9 _ _ ?_
  refine wp_seq_k (fun K10 hK10 => ?_)
  refine wp_cond_true (hE.eval rfl) ?_
  refine wp_skip ?_
  refine hK10 _ _ ?_
  refine wp_seq_k (fun K11 hK11 => ?_)
  refine wp_block ?_
  refine wp_seq_k (fun K12 hK12 => ?_)
  refine wp_plain [true, true, true] rfl rfl ?_
  obtain ⟨cx29, hx29⟩ := own_rd (hM.get 0 rfl)
  refine s_indexRd (j := 0) hE rfl hx29 rfl slt111 (by first | rfl | omega) (by first | omega | (simp; omega) | (simp [*]; omega)) rfl ?_; clear hE a; intro a p29 hE hc29 hp29
  replace hc29 : (cellsAt _ [.pointer (some ⟨b6, 1, none⟩)]).holds _ := hc29
  refine s_loadAt1 hE rfl hc29 one110 (by intro X h; cases h) rfl ?_; clear hE a; intro a hE
  refine s_assign hE rfl rfl ?_; clear hE a; intro a hE
  refine q_nil ?_
  replace hE : Env a 60 [(0, _), (2, _), (3, _), (4, _), (5, _), (6, _), (8, _), (11, _), (25, _), (26, _), (27, _), (28, _)] := hE.sel [0, 2, 3, 4, 5, 6, 8, 11, 25, 26, 27, 28] rfl
  refine hK12 _ _ ?_
  refine wp_treeM hM (by kernel_rfl) (fun _ => True) (fun _ => True) (.re [(0, true), (1, true), (2, true), (3, true), (4, false), (5, false)] (.fl 4 (.fl 0 (.weak (.or 4 (.cut (.re [(5, false)] (.fl 0 (.fl 0 (.weak (.or 5 (.cut (.re [] (.weak (.leaf 0)))) (.stop))))))) (.stop)))))) [(0, true), (1, true), (2, true), (3, true), (4, false), (5, false)] [(1, [(2, 1), (5, 2)]), (2, [(5, 2)]), (4, [(5, 4)]), (5, [])] (by kernel_rfl) ?_
  intro w8 hM' hww8; clear hM; have hM := hM'; clear hM'
  refine o_re ?_
  refine o_fl rfl ?_
  refine s_move hE rfl rfl ?_; clear hE a; intro a hE
  refine s_nilCheck hE rfl rfl ?_; clear hE a; intro a hE
  refine s_sliceArr (l := 0) (h := 32) (mx' := 32) hE rfl arr27 rfl rfl rfl (by simp) (by omega) (by omega) (by omega) rfl ?_; clear hE a; intro a hE
  replace hE := hE.cast 33 rfl (show _ = Value.slice (some ⟨b6, 1, none⟩) 32 32 from rfl)
  refine s_move hE rfl rfl ?_; clear hE a; intro a hE
  refine q_nil (q_nx ?_)
  refine o_fl rfl ?_
  refine q_nil (q_nx ?_)
  refine o_weak (fun b => b ∈ [tb14]) (fun _ _ => trivial) ?_
  refine o_or rfl ?_ ?_
  · replace hM : Mem _ _ w8 [_, _, _, _, _, _] := hM.pick [2, 0, 1, 3, 4, 5] rfl
    have hlt35_2 : ((bs.drop 16).take 32).length = 32 := (by have hl_q : (bs.drop 16).length = 128 - 16 := (by have hl_q : bs.length = 128 := hl; simp; try omega); simp; try omega)
    refine s_call hE rfl Try.call56 (tapBytes_ok tb14 bb14 (bs.drop 16) 32 _ (hM.get 0 rfl) (by have hl_ : (bs.drop 16).length = 128 - 16 := (by have hl_q : bs.length = 128 := hl; simp; try omega); first | omega | (simp; done) | (simp; omega))) rfl ?_
    rintro e w9 ⟨v35, rfl, hvt35_2, hN⟩
    refine ⟨_, rfl, hN.sta, ?_⟩; clear hE a; intro a hE
    replace hM : Mem _ _ w9 [_, _, _, _, _, _, _] := hM.call1 hN (fun f hf x hx => (List.mem_cons.1 hf).elim (fun h => by subst h; exact .inl (hvt35_2 x (by first | exact hx | (rw [hlt35_2] at hx; exact hx)))) (fun h => by rw [List.mem_singleton.1 h] at hx; exact .inl hx)); clear hN
    replace hM : Mem _ _ w9 [_, _, _, _, _, _, _] := hM.pick [1, 0, 2, 3, 4, 5, 6] rfl
    replace hM := hM.tapEq (q := bs.drop 48) (by first | (rw [List.drop_drop]; done) | (rw [List.drop_drop]; congr 1; omega))
    refine q_nil (q_nx ?_)
    refine o_cut (fun _ => True) ?_
    refine o_re ?_
    refine o_fl rfl ?_
    refine q_nil (q_nx ?_)
    refine o_fl rfl ?_
    refine q_nil (q_nx ?_)
    refine o_weak (fun b => b = b6) (fun _ _ => trivial) ?_
    refine o_or rfl ?_ ?_
    · replace hM : Mem _ _ w9 [_, _, _, _, _, _, _] := hM.pick [3, 0, 1, 2, 4, 5, 6] rfl
      refine s_copySeg 1 hE rfl rfl hM (hM.get 2 rfl) hlt35_2 (bv_one _) sl55 rfl ((bv_length _).trans (by first | (simp; done) | (simp [*]; done) | (simp; omega))) rfl (by intro X h; cases h; rfl) rfl ?_; clear hE a; intro a w10 hE hM'; clear hM; have hM := hM'; clear hM'
      simp only [List.set_cons_zero, List.set_cons_succ] at hM
      refine q_nil (q_nx ?_)
      refine o_cut (fun _ => True) ?_
      refine o_re ?_
      refine o_weak (fun _ => False) (fun _ _ => trivial) ?_
      refine o_leaf rfl rfl ?_
      refine q_nil (q_ph (q_nil ?_))
      replace hE : Env a 60 [(0, _), (2, _), (3, _), (4, _), (5, _), (6, _), (8, _), (11, _), (25, _), (26, _), (27, _), (28, _)] := hE.sel [0, 2, 3, 4, 5, 6, 8, 11, 25, 26, 27, 28] rfl
      refine q_block_n ?_
      refine hK11 _ _ ?_
      refine wp_plain [true, true] rfl rfl ?_
      refine s_bin hE rfl rfl (show Bin _ _ _ _ _ (.int .i64 1) from bin_add (by rw [wrap_i64 (by omega) (by omega)]; omega)) rfl ?_; clear hE a; intro a hE
      refine s_move hE rfl rfl ?_; clear hE a; intro a hE
      refine q_nil ?_
      replace hE : Env a 60 [(0, _), (2, _), (3, _), (4, _), (5, _), (6, _), (8, _), (11, _), (25, _), (26, _), (27, _), (28, _)] := hE.sel [0, 2, 3, 4, 5, 6, 8, 11, 25, 26, 27, 28] rfl
      replace hM : Mem _ _ w10 [_, _, _, _, _, _] := hM.pick [0, 1, 3, 4, 5, 6] rfl
      refine q_then_n (c_rounds ?_)
      refine wp_seq_k (fun K13 hK13 => ?_)
      refine wp_plain [true] rfl rfl ?_
      refine s_bin hE rfl rfl bin_lss rfl ?_; clear hE a; intro a hE
      replace hE := hE.cast 28 rfl (show _ = Value.bool true from (congrArg Value.bool (by decide)))
      refine q_nil ?_
      refine hK13 _ _ ?_
      refine wp_seq_k (fun K14 hK14 => ?_)
      refine wp_cond_true (hE.eval rfl) ?_
      refine wp_skip ?_
      refine hK14 _ _ ?_
      refine wp_seq_k (fun K15 hK15 => ?_)
      refine wp_block ?_
      refine wp_seq_k (fun K16 hK16 => ?_)
      refine wp_plain [true, true, true] rfl rfl ?_
      obtain ⟨cx29, hx29⟩ := own_rd (hM.get 2 rfl)
      refine s_indexRd (j := 1) hE rfl hx29 rfl slt111 (by first | rfl | omega) (by first | omega | (simp; omega) | (simp [*]; omega)) rfl ?_; clear hE a; intro a p29 hE hc29 hp29
      replace hc29 : (cellsAt _ [.pointer (some ⟨b6, 33, none⟩)]).holds _ := hc29
      refine s_loadAt1 hE rfl hc29 one110 (by intro X h; cases h) rfl ?_; clear hE a; intro a hE
      refine s_assign hE rfl rfl ?_; clear hE a; intro a hE
      refine q_nil ?_
      replace hE : Env a 60 [(0, _), (2, _), (3, _), (4, _), (5, _), (6, _), (8, _), (11, _), (25, _), (26, _), (27, _), (28, _)] := hE.sel [0, 2, 3, 4, 5, 6, 8, 11, 25, 26, 27, 28] rfl
      refine hK16 _ _ ?_
      refine wp_treeM hM (by kernel_rfl) (fun _ => True) (fun _ => True) (.re [(0, true), (1, true), (2, true), (3, true), (4, false), (5, false)] (.fl 4 (.fl 0 (.weak (.or 4 (.cut (.re [(5, false)] (.fl 0 (.fl 0 (.weak (.or 5 (.cut (.re [] (.weak (.leaf 0)))) (.stop))))))) (.stop)))))) [(0, true), (1, true), (2, true), (3, true), (4, false), (5, false)] [(1, [(2, 1), (5, 2)]), (2, [(5, 2)]), (4, [(5, 4)]), (5, [])] (by kernel_rfl) ?_
      intro w11 hM' hww11; clear hM; have hM := hM'; clear hM'
      refine o_re ?_
      refine o_fl rfl ?_
      refine s_move hE rfl rfl ?_; clear hE a; intro a hE
      refine s_nilCheck hE rfl rfl ?_; clear hE a; intro a hE
      refine s_sliceArr (l := 0) (h := 32) (mx' := 32) hE rfl arr27 rfl rfl rfl (by simp) (by omega) (by omega) (by omega) rfl ?_; clear hE a; intro a hE
      replace hE := hE.cast 33 rfl (show _ = Value.slice (some ⟨b6, 33, none⟩) 32 32 from rfl)
      refine s_move hE rfl rfl ?_; clear hE a; intro a hE
      refine q_nil (q_nx ?_)
      refine o_fl rfl ?_
      refine q_nil (q_nx ?_)
      refine o_weak (fun b => b ∈ [tb14]) (fun _ _ => trivial) ?_
      refine o_or rfl ?_ ?_
      · replace hM : Mem _ _ w11 [_, _, _, _, _, _] := hM.pick [1, 0, 2, 3, 4, 5] rfl
        have hlt35_3 : ((bs.drop 48).take 32).length = 32 := (by have hl_q : (bs.drop 48).length = 128 - 48 := (by have hl_q : bs.length = 128 := hl; simp; try omega); simp; try omega)
        refine s_call hE rfl Try.call56 (tapBytes_ok tb14 bb14 (bs.drop 48) 32 _ (hM.get 0 rfl) (by have hl_ : (bs.drop 48).length = 128 - 48 := (by have hl_q : bs.length = 128 := hl; simp; try omega); first | omega | (simp; done) | (simp; omega))) rfl ?_
        rintro e w12 ⟨v35, rfl, hvt35_3, hN⟩
        refine ⟨_, rfl, hN.sta, ?_⟩; clear hE a; intro a hE
        replace hM : Mem _ _ w12 [_, _, _, _, _, _, _] := hM.call1 hN (fun f hf x hx => (List.mem_cons.1 hf).elim (fun h => by subst h; exact .inl (hvt35_3 x (by first | exact hx | (rw [hlt35_3] at hx; exact hx)))) (fun h => by rw [List.mem_singleton.1 h] at hx; exact .inl hx)); clear hN
        replace hM : Mem _ _ w12 [_, _, _, _, _, _, _] := hM.pick [1, 0, 2, 3, 4, 5, 6] rfl
        replace hM := hM.tapEq (q := bs.drop 80) (by first | (rw [List.drop_drop]; done) | (rw [List.drop_drop]; congr 1; omega))
        refine q_nil (q_nx ?_)
        refine o_cut (fun _ => True) ?_
        refine o_re ?_
        refine o_fl rfl ?_
        refine q_nil (q_nx ?_)
        refine o_fl rfl ?_
        refine q_nil (q_nx ?_)
        refine o_weak (fun b => b = b6) (fun _ _ => trivial) ?_
        refine o_or rfl ?_ ?_
        · replace hM : Mem _ _ w12 [_, _, _, _, _, _, _] := hM.pick [2, 0, 1, 3, 4, 5, 6] rfl
          refine s_copySeg 2 hE rfl rfl hM (hM.get 2 rfl) hlt35_3 (bv_one _) sl55 rfl ((bv_length _).trans (by first | (simp; done) | (simp [*]; done) | (simp; omega))) rfl (by intro X h; cases h; rfl) rfl ?_; clear hE a; intro a w13 hE hM'; clear hM; have hM := hM'; clear hM'
          simp only [List.set_cons_zero, List.set_cons_succ] at hM
          refine q_nil (q_nx ?_)
          refine o_cut (fun _ => True) ?_
          refine o_re ?_
          refine o_weak (fun _ => False) (fun _ _ => trivial) ?_
          refine o_leaf rfl rfl ?_
          refine q_nil (q_ph (q_nil ?_))
          replace hE : Env a 60 [(0, _), (2, _), (3, _), (4, _), (5, _), (6, _), (8, _), (11, _), (25, _), (26, _), (27, _), (28, _)] := hE.sel [0, 2, 3, 4, 5, 6, 8, 11, 25, 26, 27, 28] rfl
          refine q_block_n ?_
          refine hK15 _ _ ?_
          refine wp_plain [true, true] rfl rfl ?_
          refine s_bin hE rfl rfl (show Bin _ _ _ _ _ (.int .i64 2) from bin_add (by rw [wrap_i64 (by omega) (by omega)]; omega)) rfl ?_; clear hE a; intro a hE
          refine s_move hE rfl rfl ?_; clear hE a; intro a hE
          refine q_nil ?_
          replace hE : Env a 60 [(0, _), (2, _), (3, _), (4, _), (5, _), (6, _), (8, _), (11, _), (25, _), (26, _), (27, _), (28, _)] := hE.sel [0, 2, 3, 4, 5, 6, 8, 11, 25, 26, 27, 28] rfl
          replace hM : Mem _ _ w13 [_, _, _, _, _, _] := hM.pick [0, 1, 3, 4, 5, 6] rfl
          refine q_then_n (c_rounds ?_)
          refine wp_seq_k (fun K17 hK17 => ?_)
          refine wp_plain [true] rfl rfl ?_
          refine s_bin hE rfl rfl bin_lss rfl ?_; clear hE a; intro a hE
          replace hE := hE.cast 28 rfl (show _ = Value.bool true from (congrArg Value.bool (by decide)))
          refine q_nil ?_
          refine hK17 _ _ ?_
          refine wp_seq_k (fun K18 hK18 => ?_)
          refine wp_cond_true (hE.eval rfl) ?_
          refine wp_skip ?_
          refine hK18 _ _ ?_
          refine wp_seq_k (fun K19 hK19 => ?_)
          refine wp_block ?_
          refine wp_seq_k (fun K20 hK20 => ?_)
          refine wp_plain [true, true, true] rfl rfl ?_
          obtain ⟨cx29, hx29⟩ := own_rd (hM.get 2 rfl)
          refine s_indexRd (j := 2) hE rfl hx29 rfl slt111 (by first | rfl | omega) (by first | omega | (simp; omega) | (simp [*]; omega)) rfl ?_; clear hE a; intro a p29 hE hc29 hp29
          replace hc29 : (cellsAt _ [.pointer (some ⟨b6, 65, none⟩)]).holds _ := hc29
          refine s_loadAt1 hE rfl hc29 one110 (by intro X h; cases h) rfl ?_; clear hE a; intro a hE
          refine s_assign hE rfl rfl ?_; clear hE a; intro a hE
          refine q_nil ?_
          replace hE : Env a 60 [(0, _), (2, _), (3, _), (4, _), (5, _), (6, _), (8, _), (11, _), (25, _), (26, _), (27, _), (28, _)] := hE.sel [0, 2, 3, 4, 5, 6, 8, 11, 25, 26, 27, 28] rfl
          refine hK20 _ _ ?_
          refine wp_treeM hM (by kernel_rfl) (fun _ => True) (fun _ => True) (.re [(0, true), (1, true), (2, true), (3, true), (4, false), (5, false)] (.fl 4 (.fl 0 (.weak (.or 4 (.cut (.re [(5, false)] (.fl 0 (.fl 0 (.weak (.or 5 (.cut (.re [] (.weak (.leaf 0)))) (.stop))))))) (.stop)))))) [(0, true), (1, true), (2, true), (3, true), (4, false), (5, false)] [(1, [(2, 1), (5, 2)]), (2, [(5, 2)]), (4, [(5, 4)]), (5, [])] (by kernel_rfl) ?_
          intro w14 hM' hww14; clear hM; have hM := hM'; clear hM'
          refine o_re ?_
          refine o_fl rfl ?_
          refine s_move hE rfl rfl ?_; clear hE a; intro a hE
          refine s_nilCheck hE rfl rfl ?_; clear hE a; intro a hE
          refine s_sliceArr (l := 0) (h := 32) (mx' := 32) hE rfl arr27 rfl rfl rfl (by simp) (by omega) (by omega) (by omega) rfl ?_; clear hE a; intro a hE
          replace hE := hE.cast 33 rfl (show _ = Value.slice (some ⟨b6, 65, none⟩) 32 32 from rfl)
          refine s_move hE rfl rfl ?_; clear hE a; intro a hE
          refine q_nil (q_nx ?_)
          refine o_fl rfl ?_
          refine q_nil (q_nx ?_)
          refine o_weak (fun b => b ∈ [tb14]) (fun _ _ => trivial) ?_
          refine o_or rfl ?_ ?_
          · replace hM : Mem _ _ w14 [_, _, _, _, _, _] := hM.pick [1, 0, 2, 3, 4, 5] rfl
            have hlt35_4 : ((bs.drop 80).take 32).length = 32 := (by have hl_q : (bs.drop 80).length = 128 - 80 := (by have hl_q : bs.length = 128 := hl; simp; try omega); simp; try omega)
            refine s_call hE rfl Try.call56 (tapBytes_ok tb14 bb14 (bs.drop 80) 32 _ (hM.get 0 rfl) (by have hl_ : (bs.drop 80).length = 128 - 80 := (by have hl_q : bs.length = 128 := hl; simp; try omega); first | omega | (simp; done) | (simp; omega))) rfl ?_
            rintro e w15 ⟨v35, rfl, hvt35_4, hN⟩
            refine ⟨_, rfl, hN.sta, ?_⟩; clear hE a; intro a hE
            replace hM : Mem _ _ w15 [_, _, _, _, _, _, _] := hM.call1 hN (fun f hf x hx => (List.mem_cons.1 hf).elim (fun h => by subst h; exact .inl (hvt35_4 x (by first | exact hx | (rw [hlt35_4] at hx; exact hx)))) (fun h => by rw [List.mem_singleton.1 h] at hx; exact .inl hx)); clear hN
            replace hM : Mem _ _ w15 [_, _, _, _, _, _, _] := hM.pick [1, 0, 2, 3, 4, 5, 6] rfl
            replace hM := hM.tapEq (q := bs.drop 112) (by first | (rw [List.drop_drop]; done) | (rw [List.drop_drop]; congr 1; omega))
            refine q_nil (q_nx ?_)
            refine o_cut (fun _ => True) ?_
            refine o_re ?_
            refine o_fl rfl ?_
            refine q_nil (q_nx ?_)
            refine o_fl rfl ?_
            refine q_nil (q_nx ?_)
            refine o_weak (fun b => b = b6) (fun _ _ => trivial) ?_
            refine o_or rfl ?_ ?_
            · replace hM : Mem _ _ w15 [_, _, _, _, _, _, _] := hM.pick [2, 0, 1, 3, 4, 5, 6] rfl
              refine s_copySeg 3 hE rfl rfl hM (hM.get 2 rfl) hlt35_4 (bv_one _) sl55 rfl ((bv_length _).trans (by first | (simp; done) | (simp [*]; done) | (simp; omega))) rfl (by intro X h; cases h; rfl) rfl ?_; clear hE a; intro a w16 hE hM'; clear hM; have hM := hM'; clear hM'
              simp only [List.set_cons_zero, List.set_cons_succ] at hM
              refine q_nil (q_nx ?_)
              refine o_cut (fun _ => True) ?_
              refine o_re ?_
              refine o_weak (fun _ => False) (fun _ _ => trivial) ?_
              refine o_leaf rfl rfl ?_
              refine q_nil (q_ph (q_nil ?_))
              replace hE : Env a 60 [(0, _), (2, _), (3, _), (4, _), (5, _), (6, _), (8, _), (11, _), (25, _), (26, _), (27, _), (28, _)] := hE.sel [0, 2, 3, 4, 5, 6, 8, 11, 25, 26, 27, 28] rfl
              refine q_block_n ?_
              refine hK19 _ _ ?_
              refine wp_plain [true, true] rfl rfl ?_
              refine s_bin hE rfl rfl (show Bin _ _ _ _ _ (.int .i64 3) from bin_add (by rw [wrap_i64 (by omega) (by omega)]; omega)) rfl ?_; clear hE a; intro a hE
              refine s_move hE rfl rfl ?_; clear hE a; intro a hE
              refine q_nil ?_
              replace hE : Env a 60 [(0, _), (2, _), (3, _), (4, _), (5, _), (6, _), (8, _), (11, _), (25, _), (26, _), (27, _), (28, _)] := hE.sel [0, 2, 3, 4, 5, 6, 8, 11, 25, 26, 27, 28] rfl
              replace hM : Mem _ _ w16 [_, _, _, _, _, _] := hM.pick [0, 1, 3, 4, 5, 6] rfl
              refine q_then_n (c_rounds ?_)
              refine wp_seq_k (fun K21 hK21 => ?_)
              refine wp_plain [true] rfl rfl ?_
              refine s_bin hE rfl rfl bin_lss rfl ?_; clear hE a; intro a hE
              replace hE := hE.cast 28 rfl (show _ = Value.bool false from (congrArg Value.bool (by decide)))
              refine q_nil ?_
              refine hK21 _ _ ?_
              refine wp_seq_k (fun K22 hK22 => ?_)
              refine wp_cond_false (hE.eval rfl) ?_
              refine wp_exit ?_
              refine q_then_e ?_
              refine q_then_e ?_
              refine q_block_x ?_
              refine hK7 _ _ ?_
              refine wp_seq_k (fun K23 hK23 => ?_)
              refine wp_plain [true, false, true, true, false, true, true, false, true, false] rfl rfl ?_
              refine s_move hE rfl rfl ?_; clear hE a; intro a hE
              replace hM : Mem _ _ w16 [_, _, _, _, _, _] := hM.pick [1, 0, 2, 3, 4, 5] rfl
              refine s_call hE rfl Try.call57 (tapNum_ok tb14 bb14 (bs.drop 112) 4 _ (hM.get 0 rfl) rfl (by have hl_ : (bs.drop 112).length = 128 - 112 := (by have hl_q : bs.length = 128 := hl; simp; try omega); first | omega | (simp; done) | (simp; omega))) rfl ?_
              rintro e w17 ⟨rfl, hN⟩
              refine ⟨_, rfl, trivial, ?_⟩; clear hE a; intro a hE
              replace hM : Mem _ _ w17 [_, _, _, _, _, _] := hM.call1 hN (fun f hf x hx => by rw [List.mem_singleton.1 hf] at hx; exact .inl hx); clear hN
              replace hM := hM.tapEq (q := bs.drop 116) (by first | (rw [List.drop_drop]; done) | (rw [List.drop_drop]; congr 1; omega))
              refine s_conv hE rfl (cnv_int Try.underlying24 Try.underlying3 (wrap_i64 (by omega) (by omega))) rfl ?_; clear hE a; intro a hE
              refine s_move hE rfl rfl ?_; clear hE a; intro a hE
              refine s_call hE rfl Try.call57 (tapNum_ok tb14 bb14 (bs.drop 116) 4 _ (hM.get 0 rfl) rfl (by have hl_ : (bs.drop 116).length = 128 - 116 := (by have hl_q : bs.length = 128 := hl; simp; try omega); first | omega | (simp; done) | (simp; omega))) rfl ?_
              rintro e w18 ⟨rfl, hN⟩
              refine ⟨_, rfl, trivial, ?_⟩; clear hE a; intro a hE
              replace hM : Mem _ _ w18 [_, _, _, _, _, _] := hM.call1 hN (fun f hf x hx => by rw [List.mem_singleton.1 hf] at hx; exact .inl hx); clear hN
              replace hM := hM.tapEq (q := bs.drop 120) (by first | (rw [List.drop_drop]; done) | (rw [List.drop_drop]; congr 1; omega))
              refine s_conv hE rfl (cnv_int Try.underlying24 Try.underlying3 (wrap_i64 (by omega) (by omega))) rfl ?_; clear hE a; intro a hE
              refine s_fieldAddr hE rfl fo67_4 rfl ?_; clear hE a; intro a hE
              replace hM : Mem _ _ w18 [_, _, _, _, _, _] := hM.pick [1, 0, 2, 3, 4, 5] rfl
              refine s_store1 4 hE rfl rfl hM rfl rfl sz3 rfl rfl (by intro X h; cases h) ?_; intro w19 hM'; clear hM; have hM := hM'; clear hM'
              refine s_fieldAddr hE rfl fo67_5 rfl ?_; clear hE a; intro a hE
              refine s_store1 5 hE rfl rfl hM rfl rfl sz3 rfl rfl (by intro X h; cases h) ?_; intro w20 hM'; clear hM; have hM := hM'; clear hM'
              refine q_nil ?_
              replace hE : Env a 60 [(0, _), (2, _), (3, _), (4, _), (5, _), (6, _), (8, _), (11, _), (25, _), (26, _), (27, _), (28, _)] := hE.sel [0, 2, 3, 4, 5, 6, 8, 11, 25, 26, 27, 28] rfl
              refine hK23 _ _ ?_
              refine wp_seq_k (fun K24 hK24 => ?_)
              refine wp_seq_k (fun K25 hK25 => ?_)
              refine wp_plain [true, true, true, true, false, true, true, true, true, false, true, true] rfl rfl ?_
              refine s_move hE rfl rfl ?_; clear hE a; intro a hE
              refine s_not hE rfl rfl ?_; clear hE a; intro a hE
              refine s_move hE rfl rfl ?_; clear hE a; intro a hE
              refine hE.split 48 rfl (fun hb48 hE' => ?_) (fun hb48 hE' => ?_)
              · replace hE := hE'; clear hE'
                replace hb48 := of_decide_eq_false (not_true hb48)
                refine g_no (b := true) hE rfl rfl rfl ?_; clear hE a; intro a hE
                refine g_no (b := true) hE rfl rfl rfl ?_; clear hE a; intro a hE
                refine g_no (b := true) hE rfl rfl rfl ?_; clear hE a; intro a hE
                refine s_pickt hE rfl rfl rfl ?_; clear hE a; intro a hE
                refine s_move hE rfl rfl ?_; clear hE a; intro a hE
                refine g_no (b := true) hE rfl rfl rfl ?_; clear hE a; intro a hE
                refine g_no (b := true) hE rfl rfl rfl ?_; clear hE a; intro a hE
                refine g_no (b := true) hE rfl rfl rfl ?_; clear hE a; intro a hE
                refine s_pickt hE rfl rfl rfl ?_; clear hE a; intro a hE
                refine q_nil ?_
                replace hE : Env a 60 [(0, _), (2, _), (3, _), (4, _), (6, _), (8, _), (11, _), (25, _), (26, _), (27, _), (28, _), (57, _)] := hE.sel [0, 2, 3, 4, 6, 8, 11, 25, 26, 27, 28, 57] rfl
                refine hK25 _ _ ?_
                refine wp_cond_true (hE.eval rfl) ?_
                refine wp_seq_k (fun K26 hK26 => ?_)
                refine wp_plain [true, false, true] rfl rfl ?_
                refine s_buildS [] hE rfl zero67 rfl fpl67 (by simp [PartsOk, Value.cells, *]) rfl ?_; clear hE a; intro a hE
                replace hE := hE.cast 58 rfl (show _ = Value.agg ([[.int .u64 0], bv (List.replicate 32 (0 : UInt8)), bv (List.replicate 32 (0 : UInt8)), bv (List.replicate 32 (0 : UInt8)), [.int .i64 0], [.int .i64 0]] : List (List Value)).flatten.toArray from (by first | rfl | simp [setAll]))
                replace hM : Mem _ _ w20 [_, _, _, _, _, _] := hM.pick [4, 0, 1, 2, 3, 5] rfl
                refine s_storeSegs 0 6 (vss := [[.int .u64 0], bv (List.replicate 32 (0 : UInt8)), bv (List.replicate 32 (0 : UInt8)), bv (List.replicate 32 (0 : UInt8)), [.int .i64 0], [.int .i64 0]]) hE rfl rfl hM rfl sz67 (by have hl_s1 : (List.replicate 32 (0 : UInt8)).length = 32 := (by first | (simp; done) | (simp [*]; done) | (simp; omega)); have hl_s2 : (List.replicate 32 (0 : UInt8)).length = 32 := (by first | (simp; done) | (simp [*]; done) | (simp; omega)); have hl_s3 : (List.replicate 32 (0 : UInt8)).length = 32 := (by first | (simp; done) | (simp [*]; done) | (simp; omega));  simp only [List.map_cons, List.map_nil, bv_length, List.length_cons, List.length_nil, List.take_succ_cons, List.take_zero, List.drop_zero, List.drop_succ_cons, hl_s1, hl_s2, hl_s3]) (by decide) rfl (one_fl ⟨one1 rfl, bv_one _, bv_one _, bv_one _, one1 rfl, one1 rfl, trivial⟩) rfl (by intro X h; cases h) ?_; intro w21 hM'; clear hM; have hM := hM'; clear hM'
                simp only [List.take_zero, List.take_succ_cons, List.drop_zero, List.drop_succ_cons, List.take_nil, List.drop_nil, List.nil_append, List.append_nil, List.cons_append] at hM
                refine s_assign hE rfl rfl ?_; clear hE a; intro a hE
                refine q_nil ?_
                replace hE : Env a 60 [(0, _), (2, _), (3, _), (4, _), (6, _), (8, _), (11, _), (25, _), (26, _), (27, _), (28, _), (57, _)] := hE.sel [0, 2, 3, 4, 6, 8, 11, 25, 26, 27, 28, 57] rfl
                refine hK26 _ _ ?_
                refine wp_ret ?_
                refine q_then_r ?_
                refine f_ret2 hE rfl (res_cellN rfl (hM.get 0 rfl) row67 rfl) rfl ?_
                exact ⟨(by first | rfl | simp), hM.pick [] rfl⟩
              · replace hE := hE'; clear hE'
                replace hb48 := of_decide_eq_true (not_false' hb48)
                refine g_yes hE rfl rfl ?_
                refine s_move hE rfl rfl ?_; clear hE a; intro a hE
                refine g_yes hE rfl rfl ?_
                replace hM : Mem _ _ w20 [_, _, _, _, _, _] := hM.pick [1, 0, 2, 3, 4, 5] rfl
                refine s_call hE rfl Try.call57 (tapNum_ok tb14 bb14 (bs.drop 120) 8 _ (hM.get 0 rfl) rfl (by have hl_ : (bs.drop 120).length = 128 - 120 := (by have hl_q : bs.length = 128 := hl; simp; try omega); first | omega | (simp; done) | (simp; omega))) rfl ?_
                rintro e w21 ⟨rfl, hN⟩
                refine ⟨_, rfl, trivial, ?_⟩; clear hE a; intro a hE
                replace hM : Mem _ _ w21 [_, _, _, _, _, _] := hM.call1 hN (fun f hf x hx => by rw [List.mem_singleton.1 hf] at hx; exact .inl hx); clear hN
                replace hM := hM.tapEq (q := bs.drop 128) (by first | (rw [List.drop_drop]; done) | (rw [List.drop_drop]; congr 1; omega))
                refine g_yes hE rfl rfl ?_
                refine s_bin hE rfl rfl bin_neq rfl ?_; clear hE a; intro a hE
                refine s_pickf hE rfl rfl rfl ?_; clear hE a; intro a hE
                refine s_move hE rfl rfl ?_; clear hE a; intro a hE
                refine hE.split 53 rfl (fun hb53 hE' => ?_) (fun hb53 hE' => ?_)
                · replace hE := hE'; clear hE'
                  replace hb53 := of_decide_eq_false (not_true hb53)
                  replace hb53 : ¬ ((val ((bs.drop 120).take 8)) = 0) := by omega
                  refine g_no (b := true) hE rfl rfl rfl ?_; clear hE a; intro a hE
                  refine g_no (b := true) hE rfl rfl rfl ?_; clear hE a; intro a hE
                  refine g_no (b := true) hE rfl rfl rfl ?_; clear hE a; intro a hE
                  refine s_pickt hE rfl rfl rfl ?_; clear hE a; intro a hE
                  refine q_nil ?_
                  replace hE : Env a 60 [(0, _), (2, _), (3, _), (4, _), (6, _), (8, _), (11, _), (25, _), (26, _), (27, _), (28, _), (57, _)] := hE.sel [0, 2, 3, 4, 6, 8, 11, 25, 26, 27, 28, 57] rfl
                  refine hK25 _ _ ?_
                  refine wp_cond_true (hE.eval rfl) ?_
                  refine wp_seq_k (fun K26 hK26 => ?_)
                  refine wp_plain [true, false, true] rfl rfl ?_
                  refine s_buildS [] hE rfl zero67 rfl fpl67 (by simp [PartsOk, Value.cells, *]) rfl ?_; clear hE a; intro a hE
                  replace hE := hE.cast 58 rfl (show _ = Value.agg ([[.int .u64 0], bv (List.replicate 32 (0 : UInt8)), bv (List.replicate 32 (0 : UInt8)), bv (List.replicate 32 (0 : UInt8)), [.int .i64 0], [.int .i64 0]] : List (List Value)).flatten.toArray from (by first | rfl | simp [setAll]))
                  replace hM : Mem _ _ w21 [_, _, _, _, _, _] := hM.pick [4, 0, 1, 2, 3, 5] rfl
                  refine s_storeSegs 0 6 (vss := [[.int .u64 0], bv (List.replicate 32 (0 : UInt8)), bv (List.replicate 32 (0 : UInt8)), bv (List.replicate 32 (0 : UInt8)), [.int .i64 0], [.int .i64 0]]) hE rfl rfl hM rfl sz67 (by have hl_s1 : (List.replicate 32 (0 : UInt8)).length = 32 := (by first | (simp; done) | (simp [*]; done) | (simp; omega)); have hl_s2 : (List.replicate 32 (0 : UInt8)).length = 32 := (by first | (simp; done) | (simp [*]; done) | (simp; omega)); have hl_s3 : (List.replicate 32 (0 : UInt8)).length = 32 := (by first | (simp; done) | (simp [*]; done) | (simp; omega));  simp only [List.map_cons, List.map_nil, bv_length, List.length_cons, List.length_nil, List.take_succ_cons, List.take_zero, List.drop_zero, List.drop_succ_cons, hl_s1, hl_s2, hl_s3]) (by decide) rfl (one_fl ⟨one1 rfl, bv_one _, bv_one _, bv_one _, one1 rfl, one1 rfl, trivial⟩) rfl (by intro X h; cases h) ?_; intro w22 hM'; clear hM; have hM := hM'; clear hM'
                  simp only [List.take_zero, List.take_succ_cons, List.drop_zero, List.drop_succ_cons, List.take_nil, List.drop_nil, List.nil_append, List.append_nil, List.cons_append] at hM
                  refine s_assign hE rfl rfl ?_; clear hE a; intro a hE
                  refine q_nil ?_
                  replace hE : Env a 60 [(0, _), (2, _), (3, _), (4, _), (6, _), (8, _), (11, _), (25, _), (26, _), (27, _), (28, _), (57, _)] := hE.sel [0, 2, 3, 4, 6, 8, 11, 25, 26, 27, 28, 57] rfl
                  refine hK26 _ _ ?_
                  refine wp_ret ?_
                  refine q_then_r ?_
                  refine f_ret2 hE rfl (res_cellN rfl (hM.get 0 rfl) row67 rfl) rfl ?_
                  exact ⟨(by first | rfl | simp), hM.pick [] rfl⟩
                · replace hE := hE'; clear hE'
                  replace hb53 := of_decide_eq_true (not_false' hb53)
                  replace hb53 : (val ((bs.drop 120).take 8)) = 0 := by omega
                  refine g_yes hE rfl rfl ?_
                  refine s_loadN hE rfl (hM.get 1 rfl) row67 rfl (by intro X h; cases h) rfl ?_; clear hE a; intro a hE
                  replace hE := hE.cast 54 rfl (show _ = Value.agg ([[.int .u64 ((val ((bs.drop 8).take 8) : Nat) : Int)], bv ((bs.drop 16).take 32), bv ((bs.drop 48).take 32), bv ((bs.drop 80).take 32), [.int .i64 ((val ((bs.drop 112).take 4) : Nat) : Int)], [.int .i64 ((val ((bs.drop 116).take 4) : Nat) : Int)]] : List (List Value)).flatten.toArray from (by first | rfl | simp))
                  refine g_yes hE rfl rfl ?_
                  refine s_call hE rfl Try.call51 (root_c (val ((bs.drop 8).take 8)) ((bs.drop 16).take 32) ((bs.drop 48).take 32) ((bs.drop 80).take 32) ((val ((bs.drop 112).take 4) : Nat) : Int) ((val ((bs.drop 116).take 4) : Nat) : Int) _ hlt35_2 hlt35_3 hlt35_4) rfl ?_
                  rintro e w22 ⟨rfl, hN⟩
                  refine ⟨_, rfl, trivial, ?_⟩; clear hE a; intro a hE
                  replace hM : Mem _ _ w22 [_, _, _, _, _, _] := hM.call0 hN trivial; clear hN
                  refine g_yes hE rfl rfl ?_
                  refine s_not hE rfl rfl ?_; clear hE a; intro a hE
                  refine s_pickf hE rfl rfl rfl ?_; clear hE a; intro a hE
                  refine q_nil ?_
                  replace hE : Env a 60 [(0, _), (2, _), (3, _), (4, _), (6, _), (8, _), (11, _), (25, _), (26, _), (27, _), (28, _), (57, _)] := hE.sel [0, 2, 3, 4, 6, 8, 11, 25, 26, 27, 28, 57] rfl
                  refine hK25 _ _ ?_
                  refine hE.split 57 rfl (fun hb57 hE' => ?_) (fun hb57 hE' => ?_)
                  · replace hE := hE'; clear hE'
                    replace hb57 := not_true hb57
                    refine wp_cond_true (hE.eval rfl) ?_
                    refine wp_seq_k (fun K26 hK26 => ?_)
                    refine wp_plain [true, false, true] rfl rfl ?_
                    refine s_buildS [] hE rfl zero67 rfl fpl67 (by simp [PartsOk, Value.cells, *]) rfl ?_; clear hE a; intro a hE
                    replace hE := hE.cast 58 rfl (show _ = Value.agg ([[.int .u64 0], bv (List.replicate 32 (0 : UInt8)), bv (List.replicate 32 (0 : UInt8)), bv (List.replicate 32 (0 : UInt8)), [.int .i64 0], [.int .i64 0]] : List (List Value)).flatten.toArray from (by first | rfl | simp [setAll]))
                    replace hM : Mem _ _ w22 [_, _, _, _, _, _] := hM.pick [4, 0, 1, 2, 3, 5] rfl
                    refine s_storeSegs 0 6 (vss := [[.int .u64 0], bv (List.replicate 32 (0 : UInt8)), bv (List.replicate 32 (0 : UInt8)), bv (List.replicate 32 (0 : UInt8)), [.int .i64 0], [.int .i64 0]]) hE rfl rfl hM rfl sz67 (by have hl_s1 : (List.replicate 32 (0 : UInt8)).length = 32 := (by first | (simp; done) | (simp [*]; done) | (simp; omega)); have hl_s2 : (List.replicate 32 (0 : UInt8)).length = 32 := (by first | (simp; done) | (simp [*]; done) | (simp; omega)); have hl_s3 : (List.replicate 32 (0 : UInt8)).length = 32 := (by first | (simp; done) | (simp [*]; done) | (simp; omega));  simp only [List.map_cons, List.map_nil, bv_length, List.length_cons, List.length_nil, List.take_succ_cons, List.take_zero, List.drop_zero, List.drop_succ_cons, hl_s1, hl_s2, hl_s3]) (by decide) rfl (one_fl ⟨one1 rfl, bv_one _, bv_one _, bv_one _, one1 rfl, one1 rfl, trivial⟩) rfl (by intro X h; cases h) ?_; intro w23 hM'; clear hM; have hM := hM'; clear hM'
                    simp only [List.take_zero, List.take_succ_cons, List.drop_zero, List.drop_succ_cons, List.take_nil, List.drop_nil, List.nil_append, List.append_nil, List.cons_append] at hM
                    refine s_assign hE rfl rfl ?_; clear hE a; intro a hE
                    refine q_nil ?_
                    replace hE : Env a 60 [(0, _), (2, _), (3, _), (4, _), (6, _), (8, _), (11, _), (25, _), (26, _), (27, _), (28, _), (57, _)] := hE.sel [0, 2, 3, 4, 6, 8, 11, 25, 26, 27, 28, 57] rfl
                    refine hK26 _ _ ?_
                    refine wp_ret ?_
                    refine q_then_r ?_
                    refine f_ret2 hE rfl (res_cellN rfl (hM.get 0 rfl) row67 rfl) rfl ?_
                    exact ⟨(by first | rfl | simp), hM.pick [] rfl⟩
                  · replace hE := hE'; clear hE'
                    replace hb57 := not_false' hb57
                    have hb48' : bs.take 8 = markR := by simpa [markR] using hb48
                    exfalso; simp [getOk, hl, pc, pm, py, hb48', hb53, hb57] at h
            trivial
          trivial
        trivial
      trivial
    trivial
  trivial
end Go.Proofs.Ytlieojojahhmmaa
