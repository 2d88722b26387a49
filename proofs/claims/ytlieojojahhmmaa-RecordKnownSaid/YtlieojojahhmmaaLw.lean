/- Walks of functions of the given program that the claim reaches. -/
import Derived.Test.YtlieojojahhmmaaLa
set_option linter.unusedSimpArgs false
set_option linter.unusedVariables false
namespace Go.Proofs.Ytlieojojahhmmaa
open Go Go.Kx
theorem fo84_0 : fieldOff Try.prog 84 0 = some 0 := by kernel_rfl
theorem fo84_1 : fieldOff Try.prog 84 1 = some 1 := by kernel_rfl
theorem slt77 : slT Try.prog 77 = some 66 := by kernel_rfl
theorem row84 : RowT Try.prog 84 66 := RowT.of Try.underlying84 rfl (by kernel_rfl)
theorem kl84 : ∀ {k : Nat} {x0 : Int} {x1 : Int} {x2 : List UInt8} (hx0 : (Lit.int .i64 x0).wf = true) (hx1 : (Lit.int .i64 x1).wf = true) (hx2 : x2.length = 64), KL Try.prog (k + 3) 84 ([[.int .i64 x0], [.int .i64 x1], bv x2].flatten) := fun {k} {x0} {x1} {x2} hx0 hx1 hx2 => KL.struct [1, 1, 64] Try.underlying84 (by kernel_rfl) (by kernel_rfl) (by kernel_rfl) (by simp [*]) [3, 3, 59] (by kernel_rfl) ⟨KL.int Try.underlying3 hx0, KL.int Try.underlying3 hx1, KL.arr8 Try.underlying59 Try.underlying5 (by kernel_rfl) (by kernel_rfl) hx2, trivial⟩
theorem eqk84 : ∀ {cs ds : List Value} {b : Bool} {k k' : Nat}, KL Try.prog k 84 cs → KL Try.prog k' 84 ds → (b = true ↔ cs = ds) → Bin Try.prog .eql 84 (.agg cs.toArray) (.agg ds.toArray) (.bool b) ∧ Bin Try.prog .neq 84 (.agg cs.toArray) (.agg ds.toArray) (.bool (!b)) := fun h1 h2 hb => bins_key (m := 3) (by kernel_rfl) rfl (by kernel_rfl) (by rw [Try.underlying84]) h1 h2 hb
theorem zero84 : Zero Try.prog 84 [[.int .i64 0], [.int .i64 0], bv (List.replicate 64 0)] := ⟨.agg ([[.int .i64 0], [.int .i64 0], bv (List.replicate 64 0)] : List (List Value)).flatten.toArray, by kernel_rfl, by kernel_rfl⟩
theorem sz84 : (Try.prog.info? 84).map (·.size) = some 66 := by kernel_rfl
theorem fo84_2 : fieldOff Try.prog 84 2 = some 2 := by kernel_rfl
theorem arr59 : arrT Try.prog 59 = some (64, 1) := by kernel_rfl
theorem may_c (wr : Int) (wi : Int) (wd : List UInt8) (w : World) (hl_wd : wd.length = 64) : Calls Try.prog 60 #[.agg ([[.int .i64 wr], [.int .i64 wi], bv wd] : List (List Value)).flatten.toArray] w fun e w' => e = .returned (.bool (mayW (wr, wi, wd))) ∧ Mem w [] w' [] := by
  have hM := Mem.start0 w
  refine f_enter 21 Try.func60 rfl rfl rfl ?_
  intro a hE
  replace hE : Env a 21 [(0, _)] := hE
  refine wp_seq_k (fun K1 hK1 => ?_)
  refine wp_plain [false, true] rfl rfl ?_
  refine s_box (ss := [[.int .i64 wr], [.int .i64 wi], bv wd]) [1, 1, 64] hE hM rfl rfl (by simp [*]) rfl ?_; clear hE a; intro a b1 w1 hE hM'
  clear hM; have hM := hM'; clear hM'
  refine s_assign hE rfl rfl ?_; clear hE a; intro a hE
  refine q_nil ?_
  replace hE : Env a 21 [(1, _), (2, _)] := hE.sel [1, 2] rfl
  refine hK1 _ _ ?_
  refine wp_seq_k (fun K2 hK2 => ?_)
  refine wp_plain [true, true, true, true, true, true, true, true, true, true, true, true, true, true, true, true, false, true, true] rfl rfl ?_
  refine s_fieldAddr hE rfl fo84_0 rfl ?_; clear hE a; intro a hE
  refine s_load1 hE rfl (hM.get 0 rfl) rfl one3 (by intro X h; cases h) rfl ?_; clear hE a; intro a hE
  refine s_bin hE rfl rfl bin_eql rfl ?_; clear hE a; intro a hE
  refine s_move hE rfl rfl ?_; clear hE a; intro a hE
  refine hE.split 6 rfl (fun hb6 hE' => ?_) (fun hb6 hE' => ?_)
  · replace hE := hE'; clear hE'
    replace hb6 := of_decide_eq_true hb6
    refine g_no (b := true) hE rfl rfl rfl ?_; clear hE a; intro a hE
    refine g_no (b := true) hE rfl rfl rfl ?_; clear hE a; intro a hE
    refine g_no (b := true) hE rfl rfl rfl ?_; clear hE a; intro a hE
    refine s_pickt hE rfl rfl rfl ?_; clear hE a; intro a hE
    refine s_move hE rfl rfl ?_; clear hE a; intro a hE
    refine g_no (b := true) hE rfl rfl rfl ?_; clear hE a; intro a hE
    refine g_no (b := true) hE rfl rfl rfl ?_; clear hE a; intro a hE
    refine g_no (b := true) hE rfl rfl rfl ?_; clear hE a; intro a hE
    refine s_pickt hE rfl rfl rfl ?_; clear hE a; intro a hE
    refine s_move hE rfl rfl ?_; clear hE a; intro a hE
    refine g_yes hE rfl rfl ?_
    refine s_fieldAddr hE rfl fo84_1 rfl ?_; clear hE a; intro a hE
    refine g_yes hE rfl rfl ?_
    refine s_load1 hE rfl (hM.get 0 rfl) rfl one3 (by intro X h; cases h) rfl ?_; clear hE a; intro a hE
    refine g_yes hE rfl rfl ?_
    refine s_call hE rfl Try.call76 (number_c wi _ ) rfl ?_
    rintro e w2 ⟨rfl, hN⟩
    refine ⟨_, rfl, trivial, ?_⟩; clear hE a; intro a hE
    replace hM : Mem _ _ w2 [_] := hM.call0 hN trivial; clear hN
    refine s_pickt hE rfl rfl rfl ?_; clear hE a; intro a hE
    refine s_assign hE rfl rfl ?_; clear hE a; intro a hE
    refine q_nil ?_
    replace hE : Env a 21 [(2, _)] := hE.sel [2] rfl
    refine hK2 _ _ ?_
    refine wp_ret ?_
    refine f_ret1 hE rfl rfl ?_
    exact ⟨(by simp [mayW, hb6]), hM.pick [] rfl⟩
  · replace hE := hE'; clear hE'
    replace hb6 := of_decide_eq_false hb6
    refine g_yes hE rfl rfl ?_
    refine s_fieldAddr hE rfl fo84_0 rfl ?_; clear hE a; intro a hE
    refine g_yes hE rfl rfl ?_
    refine s_load1 hE rfl (hM.get 0 rfl) rfl one3 (by intro X h; cases h) rfl ?_; clear hE a; intro a hE
    refine g_yes hE rfl rfl ?_
    refine s_bin hE rfl rfl bin_eql rfl ?_; clear hE a; intro a hE
    refine s_pickf hE rfl rfl rfl ?_; clear hE a; intro a hE
    refine s_move hE rfl rfl ?_; clear hE a; intro a hE
    refine hE.split 11 rfl (fun hb11 hE' => ?_) (fun hb11 hE' => ?_)
    · replace hE := hE'; clear hE'
      replace hb11 := of_decide_eq_true hb11
      refine g_no (b := true) hE rfl rfl rfl ?_; clear hE a; intro a hE
      refine g_no (b := true) hE rfl rfl rfl ?_; clear hE a; intro a hE
      refine g_no (b := true) hE rfl rfl rfl ?_; clear hE a; intro a hE
      refine s_pickt hE rfl rfl rfl ?_; clear hE a; intro a hE
      refine s_move hE rfl rfl ?_; clear hE a; intro a hE
      refine g_yes hE rfl rfl ?_
      refine s_fieldAddr hE rfl fo84_1 rfl ?_; clear hE a; intro a hE
      refine g_yes hE rfl rfl ?_
      refine s_load1 hE rfl (hM.get 0 rfl) rfl one3 (by intro X h; cases h) rfl ?_; clear hE a; intro a hE
      refine g_yes hE rfl rfl ?_
      refine s_call hE rfl Try.call76 (number_c wi _ ) rfl ?_
      rintro e w2 ⟨rfl, hN⟩
      refine ⟨_, rfl, trivial, ?_⟩; clear hE a; intro a hE
      replace hM : Mem _ _ w2 [_] := hM.call0 hN trivial; clear hN
      refine s_pickt hE rfl rfl rfl ?_; clear hE a; intro a hE
      refine s_assign hE rfl rfl ?_; clear hE a; intro a hE
      refine q_nil ?_
      replace hE : Env a 21 [(2, _)] := hE.sel [2] rfl
      refine hK2 _ _ ?_
      refine wp_ret ?_
      refine f_ret1 hE rfl rfl ?_
      exact ⟨(by simp [mayW, hb6, hb11]), hM.pick [] rfl⟩
    · replace hE := hE'; clear hE'
      replace hb11 := of_decide_eq_false hb11
      refine g_yes hE rfl rfl ?_
      refine s_fieldAddr hE rfl fo84_0 rfl ?_; clear hE a; intro a hE
      refine g_yes hE rfl rfl ?_
      refine s_load1 hE rfl (hM.get 0 rfl) rfl one3 (by intro X h; cases h) rfl ?_; clear hE a; intro a hE
      refine g_yes hE rfl rfl ?_
      refine s_bin hE rfl rfl bin_eql rfl ?_; clear hE a; intro a hE
      refine s_pickf hE rfl rfl rfl ?_; clear hE a; intro a hE
      refine s_move hE rfl rfl ?_; clear hE a; intro a hE
      refine hE.split 16 rfl (fun hb16 hE' => ?_) (fun hb16 hE' => ?_)
      · replace hE := hE'; clear hE'
        replace hb16 := of_decide_eq_true hb16
        refine g_yes hE rfl rfl ?_
        refine s_fieldAddr hE rfl fo84_1 rfl ?_; clear hE a; intro a hE
        refine g_yes hE rfl rfl ?_
        refine s_load1 hE rfl (hM.get 0 rfl) rfl one3 (by intro X h; cases h) rfl ?_; clear hE a; intro a hE
        refine g_yes hE rfl rfl ?_
        refine s_call hE rfl Try.call76 (number_c wi _ ) rfl ?_
        rintro e w2 ⟨rfl, hN⟩
        refine ⟨_, rfl, trivial, ?_⟩; clear hE a; intro a hE
        replace hM : Mem _ _ w2 [_] := hM.call0 hN trivial; clear hN
        refine s_pickt hE rfl rfl rfl ?_; clear hE a; intro a hE
        refine s_assign hE rfl rfl ?_; clear hE a; intro a hE
        refine q_nil ?_
        replace hE : Env a 21 [(2, _)] := hE.sel [2] rfl
        refine hK2 _ _ ?_
        refine wp_ret ?_
        refine f_ret1 hE rfl rfl ?_
        exact ⟨(by simp [mayW, hb6, hb11, hb16]), hM.pick [] rfl⟩
      · replace hE := hE'; clear hE'
        replace hb16 := of_decide_eq_false hb16
        refine g_no (b := false) hE rfl rfl rfl ?_; clear hE a; intro a hE
        refine g_no (b := false) hE rfl rfl rfl ?_; clear hE a; intro a hE
        refine g_no (b := false) hE rfl rfl rfl ?_; clear hE a; intro a hE
        refine s_pickf hE rfl rfl rfl ?_; clear hE a; intro a hE
        refine s_assign hE rfl rfl ?_; clear hE a; intro a hE
        refine q_nil ?_
        replace hE : Env a 21 [(2, _)] := hE.sel [2] rfl
        refine hK2 _ _ ?_
        refine wp_ret ?_
        refine f_ret1 hE rfl rfl ?_
        exact ⟨(by simp [mayW, hb6, hb11, hb16]), hM.pick [] rfl⟩
theorem rmaywrite_c (wr : Int) (wi : Int) (wd : List UInt8) (w : World) (hl_wd : wd.length = 64) : Calls Try.prog 61 #[.agg ([[.int .i64 wr], [.int .i64 wi], bv wd] : List (List Value)).flatten.toArray] w fun e w' => e = .returned (.bool (mayW (wr, wi, wd))) ∧ Mem w [] w' [] := by
  have hM := Mem.start0 w
  refine f_enter 26 Try.func61 rfl rfl rfl ?_
  intro a hE
  replace hE : Env a 26 [(0, _)] := hE
  refine wp_seq_k (fun K1 hK1 => ?_)
  refine wp_plain [false, true] rfl rfl ?_
  refine s_box (ss := [[.int .i64 wr], [.int .i64 wi], bv wd]) [1, 1, 64] hE hM rfl rfl (by simp [*]) rfl ?_; clear hE a; intro a b1 w1 hE hM'
  clear hM; have hM := hM'; clear hM'
  refine s_assign hE rfl rfl ?_; clear hE a; intro a hE
  refine q_nil ?_
  replace hE : Env a 26 [(1, _), (2, _)] := hE.sel [1, 2] rfl
  refine hK1 _ _ ?_
  refine wp_seq_k (fun K2 hK2 => ?_)
  refine wp_plain [true, true, true, true, true, true, true, true, true, true, true, true, true, true, true, true, true, true, true, true, true, true, true, true] rfl rfl ?_
  refine s_fieldAddr hE rfl fo84_0 rfl ?_; clear hE a; intro a hE
  refine s_load1 hE rfl (hM.get 0 rfl) rfl one3 (by intro X h; cases h) rfl ?_; clear hE a; intro a hE
  refine s_bin hE rfl rfl bin_eql rfl ?_; clear hE a; intro a hE
  refine s_move hE rfl rfl ?_; clear hE a; intro a hE
  refine hE.split 6 rfl (fun hb6 hE' => ?_) (fun hb6 hE' => ?_)
  · replace hE := hE'; clear hE'
    replace hb6 := of_decide_eq_true hb6
    refine g_no (b := true) hE rfl rfl rfl ?_; clear hE a; intro a hE
    refine g_no (b := true) hE rfl rfl rfl ?_; clear hE a; intro a hE
    refine g_no (b := true) hE rfl rfl rfl ?_; clear hE a; intro a hE
    refine s_pickt hE rfl rfl rfl ?_; clear hE a; intro a hE
    refine s_move hE rfl rfl ?_; clear hE a; intro a hE
    refine g_no (b := true) hE rfl rfl rfl ?_; clear hE a; intro a hE
    refine g_no (b := true) hE rfl rfl rfl ?_; clear hE a; intro a hE
    refine g_no (b := true) hE rfl rfl rfl ?_; clear hE a; intro a hE
    refine s_pickt hE rfl rfl rfl ?_; clear hE a; intro a hE
    refine s_move hE rfl rfl ?_; clear hE a; intro a hE
    refine g_yes hE rfl rfl ?_
    refine s_fieldAddr hE rfl fo84_1 rfl ?_; clear hE a; intro a hE
    refine g_yes hE rfl rfl ?_
    refine s_load1 hE rfl (hM.get 0 rfl) rfl one3 (by intro X h; cases h) rfl ?_; clear hE a; intro a hE
    refine g_yes hE rfl rfl ?_
    refine s_bin hE rfl rfl bin_geq rfl ?_; clear hE a; intro a hE
    refine s_pickt hE rfl rfl rfl ?_; clear hE a; intro a hE
    refine s_move hE rfl rfl ?_; clear hE a; intro a hE
    refine hE.split 21 rfl (fun hb21 hE' => ?_) (fun hb21 hE' => ?_)
    · replace hE := hE'; clear hE'
      replace hb21 := of_decide_eq_true hb21
      refine g_yes hE rfl rfl ?_
      refine s_fieldAddr hE rfl fo84_1 rfl ?_; clear hE a; intro a hE
      refine g_yes hE rfl rfl ?_
      refine s_load1 hE rfl (hM.get 0 rfl) rfl one3 (by intro X h; cases h) rfl ?_; clear hE a; intro a hE
      refine g_yes hE rfl rfl ?_
      refine s_bin hE rfl rfl bin_leq rfl ?_; clear hE a; intro a hE
      refine s_pickt hE rfl rfl rfl ?_; clear hE a; intro a hE
      refine s_assign hE rfl rfl ?_; clear hE a; intro a hE
      refine q_nil ?_
      replace hE : Env a 26 [(2, _)] := hE.sel [2] rfl
      refine hK2 _ _ ?_
      refine wp_ret ?_
      refine f_ret1 hE rfl rfl ?_
      exact ⟨(by simp [mayW, numB, hb6, hb21]), hM.pick [] rfl⟩
    · replace hE := hE'; clear hE'
      replace hb21 := of_decide_eq_false hb21
      refine g_no (b := false) hE rfl rfl rfl ?_; clear hE a; intro a hE
      refine g_no (b := false) hE rfl rfl rfl ?_; clear hE a; intro a hE
      refine g_no (b := false) hE rfl rfl rfl ?_; clear hE a; intro a hE
      refine s_pickf hE rfl rfl rfl ?_; clear hE a; intro a hE
      refine s_assign hE rfl rfl ?_; clear hE a; intro a hE
      refine q_nil ?_
      replace hE : Env a 26 [(2, _)] := hE.sel [2] rfl
      refine hK2 _ _ ?_
      refine wp_ret ?_
      refine f_ret1 hE rfl rfl ?_
      exact ⟨(by simp [mayW, numB, hb6, hb21]), hM.pick [] rfl⟩
  · replace hE := hE'; clear hE'
    replace hb6 := of_decide_eq_false hb6
    refine g_yes hE rfl rfl ?_
    refine s_fieldAddr hE rfl fo84_0 rfl ?_; clear hE a; intro a hE
    refine g_yes hE rfl rfl ?_
    refine s_load1 hE rfl (hM.get 0 rfl) rfl one3 (by intro X h; cases h) rfl ?_; clear hE a; intro a hE
    refine g_yes hE rfl rfl ?_
    refine s_bin hE rfl rfl bin_eql rfl ?_; clear hE a; intro a hE
    refine s_pickf hE rfl rfl rfl ?_; clear hE a; intro a hE
    refine s_move hE rfl rfl ?_; clear hE a; intro a hE
    refine hE.split 11 rfl (fun hb11 hE' => ?_) (fun hb11 hE' => ?_)
    · replace hE := hE'; clear hE'
      replace hb11 := of_decide_eq_true hb11
      refine g_no (b := true) hE rfl rfl rfl ?_; clear hE a; intro a hE
      refine g_no (b := true) hE rfl rfl rfl ?_; clear hE a; intro a hE
      refine g_no (b := true) hE rfl rfl rfl ?_; clear hE a; intro a hE
      refine s_pickt hE rfl rfl rfl ?_; clear hE a; intro a hE
      refine s_move hE rfl rfl ?_; clear hE a; intro a hE
      refine g_yes hE rfl rfl ?_
      refine s_fieldAddr hE rfl fo84_1 rfl ?_; clear hE a; intro a hE
      refine g_yes hE rfl rfl ?_
      refine s_load1 hE rfl (hM.get 0 rfl) rfl one3 (by intro X h; cases h) rfl ?_; clear hE a; intro a hE
      refine g_yes hE rfl rfl ?_
      refine s_bin hE rfl rfl bin_geq rfl ?_; clear hE a; intro a hE
      refine s_pickt hE rfl rfl rfl ?_; clear hE a; intro a hE
      refine s_move hE rfl rfl ?_; clear hE a; intro a hE
      refine hE.split 21 rfl (fun hb21 hE' => ?_) (fun hb21 hE' => ?_)
      · replace hE := hE'; clear hE'
        replace hb21 := of_decide_eq_true hb21
        refine g_yes hE rfl rfl ?_
        refine s_fieldAddr hE rfl fo84_1 rfl ?_; clear hE a; intro a hE
        refine g_yes hE rfl rfl ?_
        refine s_load1 hE rfl (hM.get 0 rfl) rfl one3 (by intro X h; cases h) rfl ?_; clear hE a; intro a hE
        refine g_yes hE rfl rfl ?_
        refine s_bin hE rfl rfl bin_leq rfl ?_; clear hE a; intro a hE
        refine s_pickt hE rfl rfl rfl ?_; clear hE a; intro a hE
        refine s_assign hE rfl rfl ?_; clear hE a; intro a hE
        refine q_nil ?_
        replace hE : Env a 26 [(2, _)] := hE.sel [2] rfl
        refine hK2 _ _ ?_
        refine wp_ret ?_
        refine f_ret1 hE rfl rfl ?_
        exact ⟨(by simp [mayW, numB, hb6, hb11, hb21]), hM.pick [] rfl⟩
      · replace hE := hE'; clear hE'
        replace hb21 := of_decide_eq_false hb21
        refine g_no (b := false) hE rfl rfl rfl ?_; clear hE a; intro a hE
        refine g_no (b := false) hE rfl rfl rfl ?_; clear hE a; intro a hE
        refine g_no (b := false) hE rfl rfl rfl ?_; clear hE a; intro a hE
        refine s_pickf hE rfl rfl rfl ?_; clear hE a; intro a hE
        refine s_assign hE rfl rfl ?_; clear hE a; intro a hE
        refine q_nil ?_
        replace hE : Env a 26 [(2, _)] := hE.sel [2] rfl
        refine hK2 _ _ ?_
        refine wp_ret ?_
        refine f_ret1 hE rfl rfl ?_
        exact ⟨(by simp [mayW, numB, hb6, hb11, hb21]), hM.pick [] rfl⟩
    · replace hE := hE'; clear hE'
      replace hb11 := of_decide_eq_false hb11
      refine g_yes hE rfl rfl ?_
      refine s_fieldAddr hE rfl fo84_0 rfl ?_; clear hE a; intro a hE
      refine g_yes hE rfl rfl ?_
      refine s_load1 hE rfl (hM.get 0 rfl) rfl one3 (by intro X h; cases h) rfl ?_; clear hE a; intro a hE
      refine g_yes hE rfl rfl ?_
      refine s_bin hE rfl rfl bin_eql rfl ?_; clear hE a; intro a hE
      refine s_pickf hE rfl rfl rfl ?_; clear hE a; intro a hE
      refine s_move hE rfl rfl ?_; clear hE a; intro a hE
      refine hE.split 16 rfl (fun hb16 hE' => ?_) (fun hb16 hE' => ?_)
      · replace hE := hE'; clear hE'
        replace hb16 := of_decide_eq_true hb16
        refine g_yes hE rfl rfl ?_
        refine s_fieldAddr hE rfl fo84_1 rfl ?_; clear hE a; intro a hE
        refine g_yes hE rfl rfl ?_
        refine s_load1 hE rfl (hM.get 0 rfl) rfl one3 (by intro X h; cases h) rfl ?_; clear hE a; intro a hE
        refine g_yes hE rfl rfl ?_
        refine s_bin hE rfl rfl bin_geq rfl ?_; clear hE a; intro a hE
        refine s_pickt hE rfl rfl rfl ?_; clear hE a; intro a hE
        refine s_move hE rfl rfl ?_; clear hE a; intro a hE
        refine hE.split 21 rfl (fun hb21 hE' => ?_) (fun hb21 hE' => ?_)
        · replace hE := hE'; clear hE'
          replace hb21 := of_decide_eq_true hb21
          refine g_yes hE rfl rfl ?_
          refine s_fieldAddr hE rfl fo84_1 rfl ?_; clear hE a; intro a hE
          refine g_yes hE rfl rfl ?_
          refine s_load1 hE rfl (hM.get 0 rfl) rfl one3 (by intro X h; cases h) rfl ?_; clear hE a; intro a hE
          refine g_yes hE rfl rfl ?_
          refine s_bin hE rfl rfl bin_leq rfl ?_; clear hE a; intro a hE
          refine s_pickt hE rfl rfl rfl ?_; clear hE a; intro a hE
          refine s_assign hE rfl rfl ?_; clear hE a; intro a hE
          refine q_nil ?_
          replace hE : Env a 26 [(2, _)] := hE.sel [2] rfl
          refine hK2 _ _ ?_
          refine wp_ret ?_
          refine f_ret1 hE rfl rfl ?_
          exact ⟨(by simp [mayW, numB, hb6, hb11, hb16, hb21]), hM.pick [] rfl⟩
        · replace hE := hE'; clear hE'
          replace hb21 := of_decide_eq_false hb21
          refine g_no (b := false) hE rfl rfl rfl ?_; clear hE a; intro a hE
          refine g_no (b := false) hE rfl rfl rfl ?_; clear hE a; intro a hE
          refine g_no (b := false) hE rfl rfl rfl ?_; clear hE a; intro a hE
          refine s_pickf hE rfl rfl rfl ?_; clear hE a; intro a hE
          refine s_assign hE rfl rfl ?_; clear hE a; intro a hE
          refine q_nil ?_
          replace hE : Env a 26 [(2, _)] := hE.sel [2] rfl
          refine hK2 _ _ ?_
          refine wp_ret ?_
          refine f_ret1 hE rfl rfl ?_
          exact ⟨(by simp [mayW, numB, hb6, hb11, hb16, hb21]), hM.pick [] rfl⟩
      · replace hE := hE'; clear hE'
        replace hb16 := of_decide_eq_false hb16
        refine g_no (b := false) hE rfl rfl rfl ?_; clear hE a; intro a hE
        refine g_no (b := false) hE rfl rfl rfl ?_; clear hE a; intro a hE
        refine g_no (b := false) hE rfl rfl rfl ?_; clear hE a; intro a hE
        refine s_pickf hE rfl rfl rfl ?_; clear hE a; intro a hE
        refine s_move hE rfl rfl ?_; clear hE a; intro a hE
        refine g_no (b := false) hE rfl rfl rfl ?_; clear hE a; intro a hE
        refine g_no (b := false) hE rfl rfl rfl ?_; clear hE a; intro a hE
        refine g_no (b := false) hE rfl rfl rfl ?_; clear hE a; intro a hE
        refine s_pickf hE rfl rfl rfl ?_; clear hE a; intro a hE
        refine s_assign hE rfl rfl ?_; clear hE a; intro a hE
        refine q_nil ?_
        replace hE : Env a 26 [(2, _)] := hE.sel [2] rfl
        refine hK2 _ _ ?_
        refine wp_ret ?_
        refine f_ret1 hE rfl rfl ?_
        exact ⟨(by simp [mayW, numB, hb6, hb11, hb16]), hM.pick [] rfl⟩
theorem rsame_c (u : Value) (la : List Wr) (ca : Nat) (v : Value) (lb : List Wr) (cb : Nat) (w : World) (hr_la : (rd u 66 la.length ca (la.flatMap wcl)).holds w) (ho_la : ∀ x, x ∈ la → OkWr x) (hr_lb : (rd v 66 lb.length cb (lb.flatMap wcl)).holds w) (ho_lb : ∀ x, x ∈ lb → OkWr x) (hlx : la.length ≤ 1759218604390) : Calls Try.prog 33 #[u, v] w fun e w' => e = .returned (.bool (decide (la = lb))) ∧ Mem w [] w' [] := by
  have hM : Mem w [] w [rd u 66 la.length ca (la.flatMap wcl), rd v 66 lb.length cb (lb.flatMap wcl)] := Mem.startR w (fun g hg => by
    simp only [List.mem_cons, List.not_mem_nil, or_false] at hg
    rcases hg with rfl | rfl
    · exact ⟨hr_la, rfl⟩
    · exact ⟨hr_lb, rfl⟩)
  refine f_enter 26 Try.func33 rfl rfl rfl ?_
  intro a hE
  replace hE : Env a 26 [(0, _), (1, _)] := hE
  refine wp_seq_k (fun K1 hK1 => ?_)
  refine wp_plain [true] rfl rfl ?_
  refine s_assign hE rfl rfl ?_; clear hE a; intro a hE
  refine q_nil ?_
  refine hK1 _ _ ?_
  refine wp_seq_k (fun K2 hK2 => ?_)
  refine wp_seq_k (fun K3 hK3 => ?_)
  refine wp_plain [true, true, true, true, true] rfl rfl ?_
  refine s_move hE rfl rfl ?_; clear hE a; intro a hE
  refine s_len hE rfl Try.underlying77 (rd_slice (hM.get 0 rfl)) rfl ?_; clear hE a; intro a hE
  refine s_move hE rfl rfl ?_; clear hE a; intro a hE
  refine s_len hE rfl Try.underlying77 (rd_slice (hM.get 1 rfl)) rfl ?_; clear hE a; intro a hE
  refine s_bin hE rfl rfl bin_neq rfl ?_; clear hE a; intro a hE
  refine q_nil ?_
  replace hE : Env a 26 [(0, _), (1, _), (4, _), (10, _)] := hE.sel [0, 1, 4, 10] rfl
  refine hK3 _ _ ?_
  refine hE.split 10 rfl (fun hb10 hE' => ?_) (fun hb10 hE' => ?_)
  · replace hE := hE'; clear hE'
    replace hb10 := of_decide_eq_false (not_true hb10)
    replace hb10 : ¬ (la.length = lb.length) := by omega
    refine wp_cond_true (hE.eval rfl) ?_
    refine wp_seq_k (fun K4 hK4 => ?_)
    refine wp_plain [true] rfl rfl ?_
    refine s_assign hE rfl rfl ?_; clear hE a; intro a hE
    refine q_nil ?_
    refine hK4 _ _ ?_
    refine wp_ret ?_
    refine q_then_r ?_
    refine f_ret1 hE rfl rfl ?_
    exact ⟨(congrArg (fun b => Ending.returned (Value.bool b)) (decide_eq_false (fun e => hb10 (by rw [e]))).symm), hM.pick [] rfl⟩
  · replace hE := hE'; clear hE'
    replace hb10 := of_decide_eq_true (not_false' hb10)
    replace hb10 : la.length = lb.length := by omega
    have hll : la.length = lb.length := by omega
    refine wp_cond_false (hE.eval rfl) ?_
    refine wp_skip ?_
    refine hK2 _ _ ?_
    refine wp_seq_k (fun K4 hK4 => ?_)
    refine wp_seq_k (fun K5 hK5 => ?_)
    refine wp_plain [true] rfl rfl ?_
    refine s_assign hE rfl rfl ?_; clear hE a; intro a hE
    refine q_nil ?_
    refine hK5 _ _ ?_
    refine wp_block ?_
    refine c_loop (fun (i : Nat) a w' => i ≤ la.length ∧ la.take i = lb.take i ∧ Env a 26 [(0, u), (1, v), (4, .bool false), (5, .int .i64 ((i : Nat) : Int)), (10, .bool false)] ∧ Mem w [] w' [rd u 66 la.length ca (la.flatMap wcl), rd v 66 lb.length cb (lb.flatMap wcl)]) (fun i => la.length - i) 0 ⟨Nat.zero_le _, rfl, hE.sel [0, 1, 4, 5, 10] rfl, hM⟩ ?_
    clear hE hM a; rintro i a w1 ⟨hi, hpre, hE, hM⟩
    refine wp_seq_k (fun K6 hK6 => ?_)
    refine wp_seq_k (fun K7 hK7 => ?_)
    refine wp_plain [true, true, true, true] rfl rfl ?_
    refine s_move hE rfl rfl ?_; clear hE a; intro a hE
    refine s_move hE rfl rfl ?_; clear hE a; intro a hE
    refine s_len hE rfl Try.underlying77 (rd_slice (hM.get 0 rfl)) rfl ?_; clear hE a; intro a hE
    refine s_bin hE rfl rfl bin_lss rfl ?_; clear hE a; intro a hE
    refine q_nil ?_
    replace hE : Env a 26 [(0, _), (1, _), (4, _), (5, _), (10, _), (14, _)] := hE.sel [0, 1, 4, 5, 10, 14] rfl
    refine hK7 _ _ ?_
    refine hE.split 14 rfl (fun hb14 hE' => ?_) (fun hb14 hE' => ?_)
    · replace hE := hE'; clear hE'
      replace hb14 := of_decide_eq_true hb14
      replace hb14 : i < la.length := by omega
      replace hb14 : i < la.length := by omega
      refine wp_cond_true (hE.eval rfl) ?_
      refine wp_skip ?_
      refine hK6 _ _ ?_
      refine wp_seq_k (fun K8 hK8 => ?_)
      refine wp_block ?_
      refine wp_seq_k (fun K9 hK9 => ?_)
      refine wp_drawnM hM (by kernel_rfl) (fun _ => False) [(0, true), (1, true), (2, true), (3, true), (4, true), (5, true), (6, true), (7, true), (8, true)] [] (by kernel_rfl) rfl ?_
      intro w2 hM' hww2; clear hM; have hM := hM'; clear hM'
      refine s_move hE rfl rfl ?_; clear hE a; intro a hE
      refine s_move hE rfl rfl ?_; clear hE a; intro a hE
      refine s_indexRd (j := i) hE rfl (hM.get 0 rfl) rfl slt77 (by first | rfl | omega) (by omega) rfl ?_; clear hE a; intro a p19 hE hc19 hp19
      have hlj19 : i < la.length := (by omega)
      have hok19 := ho_la _ (getD_mem (d := wr0) hlj19)
      rw [flat_elem (d := wr0) (fun x hx => wcl_len ((ho_la x hx)).1) hlj19] at hc19
      refine s_loadAtN hE rfl hc19 (by rw [wcl_len hok19.1]; exact row84) (by intro X h; cases h; simp) rfl ?_; clear hE a; intro a hE
      replace hE := hE.cast 20 rfl (show _ = Value.agg ([[.int .i64 ((la.getD i wr0).1)], [.int .i64 ((la.getD i wr0).2.1)], bv ((la.getD i wr0).2.2)] : List (List Value)).flatten.toArray from rfl)
      refine s_move hE rfl rfl ?_; clear hE a; intro a hE
      refine s_move hE rfl rfl ?_; clear hE a; intro a hE
      refine s_indexRd (j := i) hE rfl (hM.get 1 rfl) rfl slt77 (by first | rfl | omega) (by omega) rfl ?_; clear hE a; intro a p23 hE hc23 hp23
      have hlj23 : i < lb.length := (by omega)
      have hok23 := ho_lb _ (getD_mem (d := wr0) hlj23)
      rw [flat_elem (d := wr0) (fun x hx => wcl_len ((ho_lb x hx)).1) hlj23] at hc23
      refine s_loadAtN hE rfl hc23 (by rw [wcl_len hok23.1]; exact row84) (by intro X h; cases h; simp) rfl ?_; clear hE a; intro a hE
      replace hE := hE.cast 24 rfl (show _ = Value.agg ([[.int .i64 ((lb.getD i wr0).1)], [.int .i64 ((lb.getD i wr0).2.1)], bv ((lb.getD i wr0).2.2)] : List (List Value)).flatten.toArray from rfl)
      refine s_bin hE rfl rfl ((eqk84 (b := decide ((((la.getD i wr0).1) : Int) = ((lb.getD i wr0).1) ∧ (((la.getD i wr0).2.1) : Int) = ((lb.getD i wr0).2.1) ∧ ((la.getD i wr0).2.2) = ((lb.getD i wr0).2.2))) (kl84 (k := 0) (x0 := ((la.getD i wr0).1)) (x1 := ((la.getD i wr0).2.1)) (x2 := (la.getD i wr0).2.2) (wf_i64 hok19.2.1) (wf_i64 hok19.2.2) hok19.1) (kl84 (k := 0) (x0 := ((lb.getD i wr0).1)) (x1 := ((lb.getD i wr0).2.1)) (x2 := (lb.getD i wr0).2.2) (wf_i64 hok23.2.1) (wf_i64 hok23.2.2) hok23.1) (by rw [flat_eq (by have hl_x2 : ((la.getD i wr0).2.2).length = 64 := hok19.1; have hl_y2 : ((lb.getD i wr0).2.2).length = 64 := hok23.1; simp only [List.map_cons, List.map_nil, bv_length, List.length_cons, List.length_nil, hl_x2, hl_y2])]; simp [bv_iff, Int.ofNat_inj]; try omega)).2) rfl ?_; clear hE a; intro a hE
      refine q_nil ?_
      replace hE : Env a 26 [(0, _), (1, _), (4, _), (5, _), (10, _), (14, _), (25, _)] := hE.sel [0, 1, 4, 5, 10, 14, 25] rfl
      refine hK9 _ _ ?_
      refine hE.split 25 rfl (fun hb25 hE' => ?_) (fun hb25 hE' => ?_)
      · replace hE := hE'; clear hE'
        replace hb25 := of_decide_eq_false (not_true hb25)
        have hne : la ≠ lb := fun e => hb25 (by rw [e]; simp)
        refine wp_cond_true (hE.eval rfl) ?_
        refine wp_seq_k (fun K10 hK10 => ?_)
        refine wp_plain [true] rfl rfl ?_
        refine s_assign hE rfl rfl ?_; clear hE a; intro a hE
        refine q_nil ?_
        refine hK10 _ _ ?_
        refine wp_ret ?_
        refine q_block_r ?_
        refine q_then_r ?_
        refine q_then_r ?_
        refine q_block_r ?_
        refine q_then_r ?_
        refine f_ret1 hE rfl rfl ?_
        exact ⟨(congrArg (fun b => Ending.returned (Value.bool b)) (decide_eq_false hne).symm), hM.pick [] rfl⟩
      · replace hE := hE'; clear hE'
        replace hb25 := of_decide_eq_true (not_false' hb25)
        have hst : la.take (i + 1) = lb.take (i + 1) := by
          rw [take_snocG (d := wr0) (by omega), take_snocG (d := wr0) (by omega), hpre]
          exact congrArg (fun x => lb.take i ++ [x]) (Prod.ext hb25.1 (Prod.ext hb25.2.1 hb25.2.2))
        refine wp_cond_false (hE.eval rfl) ?_
        refine wp_skip ?_
        refine q_block_n ?_
        refine hK8 _ _ ?_
        refine wp_plain [true, true, true] rfl rfl ?_
        refine s_move hE rfl rfl ?_; clear hE a; intro a hE
        refine s_bin hE rfl rfl (show Bin _ _ _ _ _ (.int .i64 ((i + 1 : Nat) : Int)) from bin_add (by rw [wrap_i64 (by omega) (by omega)]; omega)) rfl ?_; clear hE a; intro a hE
        refine s_assign hE rfl rfl ?_; clear hE a; intro a hE
        refine q_nil ?_
        replace hE : Env a 26 [(0, _), (1, _), (4, _), (5, _), (10, _), (14, _), (25, _)] := hE.sel [0, 1, 4, 5, 10, 14, 25] rfl
        replace hE := hE.cast 5 rfl (show _ = Value.int .i64 (((i + 1) : Nat) : Int) from (congrArg _ (by omega)))
        replace hM : Mem _ _ w2 [_, _] := hM.pick [0, 1] rfl
        exact ⟨i + 1, ⟨by omega, hst, hE.sel [0, 1, 4, 5, 10] rfl, hM⟩, by omega⟩
    · replace hE := hE'; clear hE'
      replace hb14 := of_decide_eq_false hb14
      replace hb14 : ¬ (i < la.length) := by omega
      obtain rfl : la.length = i := by omega
      refine wp_cond_false (hE.eval rfl) ?_
      refine wp_exit ?_
      refine q_then_e ?_
      refine q_then_e ?_
      refine q_block_x ?_
      refine hK4 _ _ ?_
      refine wp_seq_k (fun K8 hK8 => ?_)
      refine wp_plain [true] rfl rfl ?_
      refine s_assign hE rfl rfl ?_; clear hE a; intro a hE
      refine q_nil ?_
      refine hK8 _ _ ?_
      refine wp_ret ?_
      refine f_ret1 hE rfl rfl ?_
      exact ⟨(congrArg (fun b => Ending.returned (Value.bool b)) (decide_eq_true (by rw [← List.take_length (l := la), hpre, hll, List.take_length])).symm), hM.pick [] rfl⟩
theorem putwrites_c (v : Value) (ls : List Wr) (c : Nat) (w : World) (hr_ls : (rd v 66 ls.length c (ls.flatMap wcl)).holds w) (ho_ls : ∀ x, x ∈ ls → OkWr x) : Calls Try.prog 31 #[v] w fun e w' => ∃ v', e = .returned (.tuple #[v', .int .i64 ((putF ls : Nat) : Int)]) ∧ Mem w [] w' [own v' 1 (putW ls).length (bv (putW ls))] := by
  have hM : Mem w [] w [rd v 66 ls.length c (ls.flatMap wcl)] := Mem.startR w (fun g hg => by
    simp only [List.mem_cons, List.not_mem_nil, or_false] at hg
    rcases hg with rfl
    · exact ⟨hr_ls, rfl⟩)
  refine f_enter 38 Try.func31 rfl rfl rfl ?_
  intro a hE
  replace hE : Env a 38 [(0, _)] := hE
  refine wp_seq_k (fun K1 hK1 => ?_)
  refine wp_plain [true, true] rfl rfl ?_
  refine s_assign hE rfl rfl ?_; clear hE a; intro a hE
  refine s_assign hE rfl rfl ?_; clear hE a; intro a hE
  refine q_nil ?_
  refine hK1 _ _ ?_
  refine wp_seq_k (fun K2 hK2 => ?_)
  refine wp_seq_k (fun K3 hK3 => ?_)
  refine wp_plain [true, true, true] rfl rfl ?_
  refine s_move hE rfl rfl ?_; clear hE a; intro a hE
  refine s_len hE rfl Try.underlying77 (rd_slice (hM.get 0 rfl)) rfl ?_; clear hE a; intro a hE
  refine s_bin hE rfl rfl bin_gtr rfl ?_; clear hE a; intro a hE
  refine q_nil ?_
  replace hE : Env a 38 [(0, _), (2, _), (3, _), (8, _)] := hE.sel [0, 2, 3, 8] rfl
  refine hK3 _ _ ?_
  refine hE.split 8 rfl (fun hb8 hE' => ?_) (fun hb8 hE' => ?_)
  · replace hE := hE'; clear hE'
    replace hb8 := of_decide_eq_true hb8
    replace hb8 : 65536 < ls.length := by omega
    have hput := putW_long (ls := ls) (by omega)
    refine wp_cond_true (hE.eval rfl) ?_
    refine wp_seq_k (fun K4 hK4 => ?_)
    refine wp_plain [true, true] rfl rfl ?_
    refine s_assign hE rfl rfl ?_; clear hE a; intro a hE
    refine s_assign hE rfl rfl ?_; clear hE a; intro a hE
    refine q_nil ?_
    refine hK4 _ _ ?_
    refine wp_ret ?_
    refine q_then_r ?_
    refine f_ret2 hE rfl rfl rfl ?_
    replace hM := hM.addNil 1
    replace hM := hM.ownEq (m' := ([] : List UInt8).length) (cs' := bv []) rfl rfl
    replace hM := Mem.ownB (p := ([] : List UInt8)) (q := putW ls) hM hput.1.symm
    exact ⟨_, (by rw [hput.2]; rfl), hM.pick [0] rfl⟩
  · replace hE := hE'; clear hE'
    replace hb8 := of_decide_eq_false hb8
    replace hb8 : ¬ (65536 < ls.length) := by omega
    refine wp_cond_false (hE.eval rfl) ?_
    refine wp_skip ?_
    refine hK2 _ _ ?_
    refine wp_seq_k (fun K4 hK4 => ?_)
    refine wp_seq_k (fun K5 hK5 => ?_)
    refine wp_plain [true, true, true] rfl rfl ?_
    refine s_move hE rfl rfl ?_; clear hE a; intro a hE
    refine s_len hE rfl Try.underlying77 (rd_slice (hM.get 0 rfl)) rfl ?_; clear hE a; intro a hE
    refine s_move hE rfl rfl ?_; clear hE a; intro a hE
    refine q_nil ?_
    refine hK5 _ _ ?_
    refine wp_block ?_
    replace hM := hM.addNil 1
    replace hM := hM.ownEq (m' := ([] : List UInt8).length) (cs' := bv []) rfl rfl
    replace hM := Mem.ownB (p := ([] : List UInt8)) (q := (ls.take 0).flatMap wB) hM (by simp)
    refine c_loop (fun (i : Nat) a w' => i ≤ ls.length ∧ (ls.take i).all mayW = true ∧ ∃ vl2, Env a 38 [(0, v), (2, vl2), (3, .int .i64 0), (8, .bool false), (9, v), (10, .int .i64 ((ls.length : Nat) : Int)), (11, .int .i64 ((i : Nat) : Int))] ∧ Mem w [] w' [own vl2 1 ((ls.take i).flatMap wB).length (bv ((ls.take i).flatMap wB)), rd v 66 ls.length c (ls.flatMap wcl)]) (fun i => ls.length - i) 0 ⟨Nat.zero_le _, rfl, _, hE.sel [0, 2, 3, 8, 9, 10, 11] rfl, hM⟩ ?_
    clear hE hM a; rintro i a w1 ⟨hi, hpre, vl2, hE, hM⟩
    refine wp_seq_k (fun K6 hK6 => ?_)
    refine wp_plain [true] rfl rfl ?_
    refine s_bin hE rfl rfl bin_lss rfl ?_; clear hE a; intro a hE
    refine q_nil ?_
    refine hK6 _ _ ?_
    refine wp_seq_k (fun K7 hK7 => ?_)
    refine hE.split 12 rfl (fun hb12 hE' => ?_) (fun hb12 hE' => ?_)
    · replace hE := hE'; clear hE'
      replace hb12 := of_decide_eq_true hb12
      replace hb12 : i < ls.length := by omega
      replace hb12 : i < ls.length := by omega
      refine wp_cond_true (hE.eval rfl) ?_
      refine wp_skip ?_
      refine hK7 _ _ ?_
      refine wp_seq_k (fun K8 hK8 => ?_)
      refine wp_block ?_
      refine wp_seq_k (fun K9 hK9 => ?_)
      refine wp_plain [true, true, false, false] rfl rfl ?_
      refine s_indexRd (j := i) hE rfl (hM.get 1 rfl) rfl slt77 (by first | rfl | omega) (by first | omega | (simp; omega) | (simp [*]; omega)) rfl ?_; clear hE a; intro a p13 hE hc13 hp13
      have hlj13 : i < ls.length := (by first | omega | (simp; omega))
      have hok13 := ho_ls _ (getD_mem (d := wr0) hlj13)
      rw [flat_elem (d := wr0) (fun x hx => wcl_len ((ho_ls x hx)).1) hlj13] at hc13
      refine s_loadAtN hE rfl hc13 (by rw [wcl_len hok13.1]; exact row84) (by intro X h; cases h) rfl ?_; clear hE a; intro a hE
      replace hE := hE.cast 14 rfl (show _ = Value.agg ([[.int .i64 ((ls.getD i wr0).1)], [.int .i64 ((ls.getD i wr0).2.1)], bv ((ls.getD i wr0).2.2)] : List (List Value)).flatten.toArray from rfl)
      refine s_alloc [1, 1, 64] hE hM zero84 rfl rfl ?_; clear hE a; intro a b5 w2 hE hM'
      clear hM; have hM := hM'; clear hM'
      refine s_storeSegs 0 3 (vss := [[.int .i64 ((ls.getD i wr0).1)], [.int .i64 ((ls.getD i wr0).2.1)], bv ((ls.getD i wr0).2.2)]) hE rfl rfl hM rfl sz84 (by have hl_s2 : ((ls.getD i wr0).2.2).length = 64 := hok13.1;  simp only [List.map_cons, List.map_nil, bv_length, List.length_cons, List.length_nil, List.take_succ_cons, List.take_zero, List.drop_zero, List.drop_succ_cons, hl_s2]) (by decide) rfl (one_fl ⟨one1 rfl, one1 rfl, bv_one _, trivial⟩) rfl (by intro X h; cases h) ?_; intro w3 hM'; clear hM; have hM := hM'; clear hM'
      simp only [List.take_zero, List.take_succ_cons, List.drop_zero, List.drop_succ_cons, List.take_nil, List.drop_nil, List.nil_append, List.append_nil, List.cons_append] at hM
      refine q_nil ?_
      replace hE : Env a 38 [(0, _), (2, _), (3, _), (5, _), (8, _), (9, _), (10, _), (11, _), (12, _)] := hE.sel [0, 2, 3, 5, 8, 9, 10, 11, 12] rfl
      refine hK9 _ _ ?_
      refine wp_seq_k (fun K10 hK10 => ?_)
      refine wp_seq_k (fun K11 hK11 => ?_)
      refine wp_plain [true, false, true] rfl rfl ?_
      refine s_loadN hE rfl (hM.get 0 rfl) row84 rfl (by intro X h; cases h) rfl ?_; clear hE a; intro a hE
      replace hE := hE.cast 15 rfl (show _ = Value.agg ([[.int .i64 ((ls.getD i wr0).1)], [.int .i64 ((ls.getD i wr0).2.1)], bv ((ls.getD i wr0).2.2)] : List (List Value)).flatten.toArray from (by first | rfl | simp))
      refine s_call hE rfl Try.call60 (may_c ((ls.getD i wr0).1) ((ls.getD i wr0).2.1) ((ls.getD i wr0).2.2) _ hok13.1) rfl ?_
      rintro e w4 ⟨rfl, hN⟩
      refine ⟨_, rfl, trivial, ?_⟩; clear hE a; intro a hE
      replace hM : Mem _ _ w4 [_, _, _] := hM.call0 hN trivial; clear hN
      refine s_not hE rfl rfl ?_; clear hE a; intro a hE
      refine q_nil ?_
      replace hE : Env a 38 [(0, _), (2, _), (3, _), (5, _), (8, _), (9, _), (10, _), (11, _), (12, _), (17, _)] := hE.sel [0, 2, 3, 5, 8, 9, 10, 11, 12, 17] rfl
      refine hK11 _ _ ?_
      refine hE.split 17 rfl (fun hb17 hE' => ?_) (fun hb17 hE' => ?_)
      · replace hE := hE'; clear hE'
        replace hb17 := not_true hb17
        replace hb17 : mayW (ls.getD i wr0) = false := hb17
        have hput := putW_not (ls := ls) (by omega) (all_not (d := wr0) (i := i) (by omega) hb17)
        refine wp_cond_true (hE.eval rfl) ?_
        refine wp_seq_k (fun K12 hK12 => ?_)
        refine wp_plain [true, true] rfl rfl ?_
        refine s_assign hE rfl rfl ?_; clear hE a; intro a hE
        refine s_assign hE rfl rfl ?_; clear hE a; intro a hE
        refine q_nil ?_
        refine hK12 _ _ ?_
        refine wp_ret ?_
        refine q_then_r ?_
        refine q_block_r ?_
        refine q_then_r ?_
        refine q_then_r ?_
        refine q_block_r ?_
        refine q_then_r ?_
        refine f_ret2 hE rfl rfl rfl ?_
        replace hM := hM.addNil 1
        replace hM := hM.ownEq (m' := ([] : List UInt8).length) (cs' := bv []) rfl rfl
        replace hM := Mem.ownB (p := ([] : List UInt8)) (q := putW ls) hM hput.1.symm
        exact ⟨_, (by rw [hput.2]; rfl), hM.pick [0] rfl⟩
      · replace hE := hE'; clear hE'
        replace hb17 := not_false' hb17
        replace hb17 : mayW (ls.getD i wr0) = true := hb17
        have hst := all_take (d := wr0) hpre (by omega) hb17
        have hrg := mayW_rng hb17
        refine wp_cond_false (hE.eval rfl) ?_
        refine wp_skip ?_
        refine hK10 _ _ ?_
        refine wp_seq_k (fun K12 hK12 => ?_)
        refine wp_plain [true, true, true, true, false, false, true] rfl rfl ?_
        refine s_move hE rfl rfl ?_; clear hE a; intro a hE
        refine s_fieldAddr hE rfl fo84_0 rfl ?_; clear hE a; intro a hE
        refine s_load1 hE rfl (hM.get 0 rfl) rfl one3 (by intro X h; cases h) rfl ?_; clear hE a; intro a hE
        refine s_conv hE rfl (cnv_int Try.underlying3 Try.underlying5 (wrap_u8_toNat (z := (ls.getD i wr0).1) (by omega))) rfl ?_; clear hE a; intro a hE
        refine s_buildSlice (xs := [.tmp 21]) (bv [UInt8.ofNat ((ls.getD i wr0).1).toNat]) hE hM sl55 rfl rfl rfl (by intro v hv; first | (cases hv; done) | (obtain ⟨x, _, rfl⟩ := List.mem_map.1 (show v ∈ bv [UInt8.ofNat ((ls.getD i wr0).1).toNat] from hv); rfl)) rfl rfl rfl rfl ?_; clear hE a; intro a v22 w5 hE hM'
        clear hM; have hM := hM'; clear hM'
        replace hM := hM.ownEq (m' := [UInt8.ofNat ((ls.getD i wr0).1).toNat].length) (cs' := bv [UInt8.ofNat ((ls.getD i wr0).1).toNat]) rfl rfl
        replace hM : Mem _ _ w5 [_, _, _, _] := hM.pick [2, 0, 1, 3] rfl
        obtain ⟨cq1, hq1⟩ := own_rd (hM.get 1 rfl)
        refine s_append hE rfl rfl hM sl55 (Src.rd Try.underlying55 hq1 (bv_one _)) (len47 (by have hl_x : ((ls.take i).flatMap wB).length = 69 * i := (wBt_len ho_ls (by omega)); have hl_y : [UInt8.ofNat ((ls.getD i wr0).1).toNat].length = 1 := (by first | (simp; done) | (simp [*]; done) | (simp; omega)); first | omega | (simp; done) | (simp; omega))) (by have hl_x : ((ls.take i).flatMap wB).length = 69 * i := (wBt_len ho_ls (by omega)); have hl_y : [UInt8.ofNat ((ls.getD i wr0).1).toNat].length = 1 := (by first | (simp; done) | (simp [*]; done) | (simp; omega)); first | omega | (simp; done) | (simp; omega)) (by intro X h; cases h) rfl ?_; clear hE a; intro a v23 w6 hE hM'; clear hM; have hM := hM'; clear hM'
        replace hM := Mem.ownApp (p := (ls.take i).flatMap wB) (q := [UInt8.ofNat ((ls.getD i wr0).1).toNat]) hM (by first | rfl | (simp; done))
        replace hM : Mem _ _ w6 [_, _, _] := hM.pick [0, 2, 3] rfl
        refine s_assign hE rfl rfl ?_; clear hE a; intro a hE
        refine q_nil ?_
        replace hE : Env a 38 [(0, _), (2, _), (3, _), (5, _), (8, _), (9, _), (10, _), (11, _), (12, _), (17, _)] := hE.sel [0, 2, 3, 5, 8, 9, 10, 11, 12, 17] rfl
        refine hK12 _ _ ?_
        refine wp_seq_k (fun K13 hK13 => ?_)
        refine wp_plain [true, true, true, true, false, true, true, true, true] rfl rfl ?_
        refine s_move hE rfl rfl ?_; clear hE a; intro a hE
        refine s_fieldAddr hE rfl fo84_1 rfl ?_; clear hE a; intro a hE
        refine s_load1 hE rfl (hM.get 1 rfl) rfl one3 (by intro X h; cases h) rfl ?_; clear hE a; intro a hE
        refine s_conv hE rfl (cnv_int Try.underlying3 Try.underlying24 (wrap_u64_toNat (z := (ls.getD i wr0).2.1) (by omega) (by omega))) rfl ?_; clear hE a; intro a hE
        obtain ⟨cq2, hq2⟩ := own_rd (hM.get 0 rfl)
        refine s_call hE rfl Try.call52 (num_fit (((ls.take i).flatMap wB) ++ [UInt8.ofNat ((ls.getD i wr0).1).toNat]) _ _ 4 (((ls.getD i wr0).2.1).toNat) _ hq2 rfl (.inr (by first | omega | (simp; omega))) (by have hl_ : (((ls.take i).flatMap wB) ++ [UInt8.ofNat ((ls.getD i wr0).1).toNat]).length = 69 * i + 1 := (by have hl_p : ((ls.take i).flatMap wB).length = 69 * i := (wBt_len ho_ls (by omega)); have hl_q : [UInt8.ofNat ((ls.getD i wr0).1).toNat].length = 1 := (by first | (simp; done) | (simp [*]; done) | (simp; omega)); rw [List.length_append]; omega); first | omega | (simp; done) | (simp; omega))) rfl ?_
        rintro e w7 ⟨v29, rfl, hN⟩
        refine ⟨_, rfl, trivial, ?_⟩; clear hE a; intro a hE
        replace hM : Mem _ _ w7 [_, _, _, _] := hM.call0 hN ⟨rfl, trivial⟩; clear hN
        refine s_move hE rfl rfl ?_; clear hE a; intro a hE
        refine s_extract hE rfl rfl rfl ?_; clear hE a; intro a hE
        refine s_extract hE rfl rfl rfl ?_; clear hE a; intro a hE
        refine s_assign hE rfl rfl ?_; clear hE a; intro a hE
        refine q_nil ?_
        replace hE : Env a 38 [(0, _), (2, _), (3, _), (5, _), (8, _), (9, _), (10, _), (11, _), (12, _), (17, _)] := hE.sel [0, 2, 3, 5, 8, 9, 10, 11, 12, 17] rfl
        refine hK13 _ _ ?_
        refine wp_plain [true, true, true, false, true] rfl rfl ?_
        refine s_move hE rfl rfl ?_; clear hE a; intro a hE
        refine s_fieldAddr hE rfl fo84_2 rfl ?_; clear hE a; intro a hE
        refine s_sliceArr (l := 0) (h := 64) (mx' := 64) hE rfl arr59 rfl rfl rfl (by simp) (by omega) (by omega) (by omega) rfl ?_; clear hE a; intro a hE
        replace hE := hE.cast 34 rfl (show _ = Value.slice (some ⟨b5, 2, none⟩) 64 64 from rfl)
        refine s_append hE rfl rfl hM sl55 (Src.rd Try.underlying55 (rd_seg8 (N := 64) (hM.get 2 rfl) rfl hok13.1) (bv_one _)) (len47 (by have hl_x : ((((ls.take i).flatMap wB) ++ [UInt8.ofNat ((ls.getD i wr0).1).toNat]) ++ (laid 4 (((ls.getD i wr0).2.1).toNat))).length = 69 * i + 1 + 4 := (by have hl_p : (((ls.take i).flatMap wB) ++ [UInt8.ofNat ((ls.getD i wr0).1).toNat]).length = 69 * i + 1 := (by have hl_p : ((ls.take i).flatMap wB).length = 69 * i := (wBt_len ho_ls (by omega)); have hl_q : [UInt8.ofNat ((ls.getD i wr0).1).toNat].length = 1 := (by first | (simp; done) | (simp [*]; done) | (simp; omega)); rw [List.length_append]; omega); have hl_q : (laid 4 (((ls.getD i wr0).2.1).toNat)).length = 4 := (by simp); rw [List.length_append]; omega); have hl_y : ((ls.getD i wr0).2.2).length = 64 := hok13.1; first | omega | (simp; done) | (simp; omega))) (by have hl_x : ((((ls.take i).flatMap wB) ++ [UInt8.ofNat ((ls.getD i wr0).1).toNat]) ++ (laid 4 (((ls.getD i wr0).2.1).toNat))).length = 69 * i + 1 + 4 := (by have hl_p : (((ls.take i).flatMap wB) ++ [UInt8.ofNat ((ls.getD i wr0).1).toNat]).length = 69 * i + 1 := (by have hl_p : ((ls.take i).flatMap wB).length = 69 * i := (wBt_len ho_ls (by omega)); have hl_q : [UInt8.ofNat ((ls.getD i wr0).1).toNat].length = 1 := (by first | (simp; done) | (simp [*]; done) | (simp; omega)); rw [List.length_append]; omega); have hl_q : (laid 4 (((ls.getD i wr0).2.1).toNat)).length = 4 := (by simp); rw [List.length_append]; omega); have hl_y : ((ls.getD i wr0).2.2).length = 64 := hok13.1; first | omega | (simp; done) | (simp; omega)) (by intro X h; cases h) rfl ?_; clear hE a; intro a v35 w8 hE hM'; clear hM; have hM := hM'; clear hM'
        replace hM := Mem.ownApp (p := (((ls.take i).flatMap wB) ++ [UInt8.ofNat ((ls.getD i wr0).1).toNat]) ++ (laid 4 (((ls.getD i wr0).2.1).toNat))) (q := (ls.getD i wr0).2.2) hM (by first | rfl | (simp; done))
        refine s_assign hE rfl rfl ?_; clear hE a; intro a hE
        refine q_nil ?_
        replace hE : Env a 38 [(0, _), (2, _), (3, _), (5, _), (8, _), (9, _), (10, _), (11, _), (12, _), (17, _)] := hE.sel [0, 2, 3, 5, 8, 9, 10, 11, 12, 17] rfl
        refine q_block_n ?_
        refine hK8 _ _ ?_
        refine wp_plain [true, true] rfl rfl ?_
        refine s_bin hE rfl rfl (show Bin _ _ _ _ _ (.int .i64 ((i + 1 : Nat) : Int)) from bin_add (by rw [wrap_i64 (by omega) (by omega)]; omega)) rfl ?_; clear hE a; intro a hE
        refine s_move hE rfl rfl ?_; clear hE a; intro a hE
        refine q_nil ?_
        replace hE : Env a 38 [(0, _), (2, _), (3, _), (5, _), (8, _), (9, _), (10, _), (11, _), (12, _), (17, _)] := hE.sel [0, 2, 3, 5, 8, 9, 10, 11, 12, 17] rfl
        replace hE := hE.cast 11 rfl (show _ = Value.int .i64 (((i + 1) : Nat) : Int) from (congrArg _ (by omega)))
        replace hM : Mem _ _ w8 [_, _, _] := hM.pick [0, 2, 3] rfl
        replace hM := Mem.ownB (p := ((((ls.take i).flatMap wB) ++ [UInt8.ofNat ((ls.getD i wr0).1).toNat]) ++ (laid 4 (((ls.getD i wr0).2.1).toNat))) ++ ((ls.getD i wr0).2.2)) (q := (ls.take (i + 1)).flatMap wB) hM (wB_step (by omega))
        replace hM : Mem _ _ w8 [_, _] := hM.pick [0, 2] rfl
        exact ⟨i + 1, ⟨by omega, hst, _, hE.sel [0, 2, 3, 8, 9, 10, 11] rfl, hM⟩, by omega⟩
    · replace hE := hE'; clear hE'
      replace hb12 := of_decide_eq_false hb12
      replace hb12 : ¬ (i < ls.length) := by omega
      obtain rfl : ls.length = i := by omega
      replace hM := Mem.ownB (p := (ls.take ls.length).flatMap wB) (q := ls.flatMap wB) hM (by rw [List.take_length])
      have hput := putW_ok (ls := ls) (by omega) (by rw [List.take_length] at hpre; exact hpre)
      refine wp_cond_false (hE.eval rfl) ?_
      refine wp_exit ?_
      refine q_then_e ?_
      refine q_then_e ?_
      refine q_block_x ?_
      refine hK4 _ _ ?_
      refine wp_seq_k (fun K8 hK8 => ?_)
      refine wp_plain [true, true, true] rfl rfl ?_
      refine s_move hE rfl rfl ?_; clear hE a; intro a hE
      refine s_assign hE rfl rfl ?_; clear hE a; intro a hE
      refine s_assign hE rfl rfl ?_; clear hE a; intro a hE
      refine q_nil ?_
      replace hE : Env a 38 [(0, _), (2, _), (3, _), (8, _), (9, _), (10, _), (11, _), (12, _)] := hE.sel [0, 2, 3, 8, 9, 10, 11, 12] rfl
      refine hK8 _ _ ?_
      refine wp_ret ?_
      refine f_ret2 hE rfl rfl rfl ?_
      replace hM := Mem.ownB (p := ls.flatMap wB) (q := putW ls) hM hput.1.symm
      exact ⟨_, (by rw [hput.2]; rfl), hM.pick [0] rfl⟩
theorem rputwrites_c (v : Value) (ls : List Wr) (c : Nat) (w : World) (hr_ls : (rd v 66 ls.length c (ls.flatMap wcl)).holds w) (ho_ls : ∀ x, x ∈ ls → OkWr x) : Calls Try.prog 32 #[v] w fun e w' => ∃ v', e = .returned (.tuple #[v', .int .i64 ((putF ls : Nat) : Int)]) ∧ Mem w [] w' [own v' 1 (putW ls).length (bv (putW ls))] := by
  have hM : Mem w [] w [rd v 66 ls.length c (ls.flatMap wcl)] := Mem.startR w (fun g hg => by
    simp only [List.mem_cons, List.not_mem_nil, or_false] at hg
    rcases hg with rfl
    · exact ⟨hr_ls, rfl⟩)
  refine f_enter 57 Try.func32 rfl rfl rfl ?_
  intro a hE
  replace hE : Env a 57 [(0, _)] := hE
  refine wp_seq_k (fun K1 hK1 => ?_)
  refine wp_plain [true, true] rfl rfl ?_
  refine s_assign hE rfl rfl ?_; clear hE a; intro a hE
  refine s_assign hE rfl rfl ?_; clear hE a; intro a hE
  refine q_nil ?_
  refine hK1 _ _ ?_
  refine wp_seq_k (fun K2 hK2 => ?_)
  refine wp_seq_k (fun K3 hK3 => ?_)
  refine wp_plain [true, true, true] rfl rfl ?_
  refine s_move hE rfl rfl ?_; clear hE a; intro a hE
  refine s_len hE rfl Try.underlying77 (rd_slice (hM.get 0 rfl)) rfl ?_; clear hE a; intro a hE
  refine s_bin hE rfl rfl bin_gtr rfl ?_; clear hE a; intro a hE
  refine q_nil ?_
  replace hE : Env a 57 [(0, _), (2, _), (3, _), (10, _)] := hE.sel [0, 2, 3, 10] rfl
  refine hK3 _ _ ?_
  refine hE.split 10 rfl (fun hb10 hE' => ?_) (fun hb10 hE' => ?_)
  · replace hE := hE'; clear hE'
    replace hb10 := of_decide_eq_true hb10
    replace hb10 : 65536 < ls.length := by omega
    have hput := putW_long (ls := ls) (by omega)
    refine wp_cond_true (hE.eval rfl) ?_
    refine wp_seq_k (fun K4 hK4 => ?_)
    refine wp_plain [true, true] rfl rfl ?_
    refine s_assign hE rfl rfl ?_; clear hE a; intro a hE
    refine s_assign hE rfl rfl ?_; clear hE a; intro a hE
    refine q_nil ?_
    refine hK4 _ _ ?_
    refine wp_ret ?_
    refine q_then_r ?_
    refine f_ret2 hE rfl rfl rfl ?_
    replace hM := hM.addNil 1
    replace hM := hM.ownEq (m' := ([] : List UInt8).length) (cs' := bv []) rfl rfl
    replace hM := Mem.ownB (p := ([] : List UInt8)) (q := putW ls) hM hput.1.symm
    exact ⟨_, (by rw [hput.2]; rfl), hM.pick [0] rfl⟩
  · replace hE := hE'; clear hE'
    replace hb10 := of_decide_eq_false hb10
    replace hb10 : ¬ (65536 < ls.length) := by omega
    refine wp_cond_false (hE.eval rfl) ?_
    refine wp_skip ?_
    refine hK2 _ _ ?_
    refine wp_seq_k (fun K4 hK4 => ?_)
    refine wp_plain [true] rfl rfl ?_
    refine s_assign hE rfl rfl ?_; clear hE a; intro a hE
    refine q_nil ?_
    refine hK4 _ _ ?_
    refine wp_seq_k (fun K5 hK5 => ?_)
    refine wp_seq_k (fun K6 hK6 => ?_)
    refine wp_plain [true] rfl rfl ?_
    refine s_assign hE rfl rfl ?_; clear hE a; intro a hE
    refine q_nil ?_
    refine hK6 _ _ ?_
    refine wp_block ?_
    replace hM := hM.addNil 1
    replace hM := hM.ownEq (m' := ([] : List UInt8).length) (cs' := bv []) rfl rfl
    replace hM := Mem.ownB (p := ([] : List UInt8)) (q := (ls.take 0).flatMap wB) hM (by simp)
    refine c_loop (fun (i : Nat) a w' => i ≤ ls.length ∧ (ls.take i).all mayW = true ∧ ∃ vl4, Env a 57 [(0, v), (2, .slice none 0 0), (3, .int .i64 0), (4, vl4), (5, .int .i64 ((i : Nat) : Int)), (10, .bool false)] ∧ Mem w [] w' [own vl4 1 ((ls.take i).flatMap wB).length (bv ((ls.take i).flatMap wB)), rd v 66 ls.length c (ls.flatMap wcl)]) (fun i => ls.length - i) 0 ⟨Nat.zero_le _, rfl, _, hE.sel [0, 2, 3, 4, 5, 10] rfl, hM⟩ ?_
    clear hE hM a; rintro i a w1 ⟨hi, hpre, vl4, hE, hM⟩
    refine wp_seq_k (fun K7 hK7 => ?_)
    refine wp_seq_k (fun K8 hK8 => ?_)
    refine wp_plain [true, true, true, true] rfl rfl ?_
    refine s_move hE rfl rfl ?_; clear hE a; intro a hE
    refine s_move hE rfl rfl ?_; clear hE a; intro a hE
    refine s_len hE rfl Try.underlying77 (rd_slice (hM.get 1 rfl)) rfl ?_; clear hE a; intro a hE
    refine s_bin hE rfl rfl bin_lss rfl ?_; clear hE a; intro a hE
    refine q_nil ?_
    replace hE : Env a 57 [(0, _), (2, _), (3, _), (4, _), (5, _), (10, _), (14, _)] := hE.sel [0, 2, 3, 4, 5, 10, 14] rfl
    refine hK8 _ _ ?_
    refine hE.split 14 rfl (fun hb14 hE' => ?_) (fun hb14 hE' => ?_)
    · replace hE := hE'; clear hE'
      replace hb14 := of_decide_eq_true hb14
      replace hb14 : i < ls.length := by omega
      replace hb14 : i < ls.length := by omega
      refine wp_cond_true (hE.eval rfl) ?_
      refine wp_skip ?_
      refine hK7 _ _ ?_
      refine wp_seq_k (fun K9 hK9 => ?_)
      refine wp_block ?_
      refine wp_seq_k (fun K10 hK10 => ?_)
      refine wp_seq_k (fun K11 hK11 => ?_)
      refine wp_plain [true, true, true, true, false, true] rfl rfl ?_
      refine s_move hE rfl rfl ?_; clear hE a; intro a hE
      refine s_move hE rfl rfl ?_; clear hE a; intro a hE
      refine s_indexRd (j := i) hE rfl (hM.get 1 rfl) rfl slt77 (by first | rfl | omega) (by first | omega | (simp; omega) | (simp [*]; omega)) rfl ?_; clear hE a; intro a p19 hE hc19 hp19
      have hlj19 : i < ls.length := (by first | omega | (simp; omega))
      have hok19 := ho_ls _ (getD_mem (d := wr0) hlj19)
      rw [flat_elem (d := wr0) (fun x hx => wcl_len ((ho_ls x hx)).1) hlj19] at hc19
      refine s_loadAtN hE rfl hc19 (by rw [wcl_len hok19.1]; exact row84) (by intro X h; cases h) rfl ?_; clear hE a; intro a hE
      replace hE := hE.cast 20 rfl (show _ = Value.agg ([[.int .i64 ((ls.getD i wr0).1)], [.int .i64 ((ls.getD i wr0).2.1)], bv ((ls.getD i wr0).2.2)] : List (List Value)).flatten.toArray from rfl)
      refine s_call hE rfl Try.call61 (rmaywrite_c ((ls.getD i wr0).1) ((ls.getD i wr0).2.1) ((ls.getD i wr0).2.2) _ hok19.1) rfl ?_
      rintro e w2 ⟨rfl, hN⟩
      refine ⟨_, rfl, trivial, ?_⟩; clear hE a; intro a hE
      replace hM : Mem _ _ w2 [_, _] := hM.call0 hN trivial; clear hN
      refine s_not hE rfl rfl ?_; clear hE a; intro a hE
      refine q_nil ?_
      replace hE : Env a 57 [(0, _), (2, _), (3, _), (4, _), (5, _), (10, _), (14, _), (22, _)] := hE.sel [0, 2, 3, 4, 5, 10, 14, 22] rfl
      refine hK11 _ _ ?_
      refine hE.split 22 rfl (fun hb22 hE' => ?_) (fun hb22 hE' => ?_)
      · replace hE := hE'; clear hE'
        replace hb22 := not_true hb22
        replace hb22 : mayW (ls.getD i wr0) = false := hb22
        have hput := putW_not (ls := ls) (by omega) (all_not (d := wr0) (i := i) (by omega) hb22)
        refine wp_cond_true (hE.eval rfl) ?_
        refine wp_seq_k (fun K12 hK12 => ?_)
        refine wp_plain [true, true] rfl rfl ?_
        refine s_assign hE rfl rfl ?_; clear hE a; intro a hE
        refine s_assign hE rfl rfl ?_; clear hE a; intro a hE
        refine q_nil ?_
        refine hK12 _ _ ?_
        refine wp_ret ?_
        refine q_then_r ?_
        refine q_block_r ?_
        refine q_then_r ?_
        refine q_then_r ?_
        refine q_block_r ?_
        refine q_then_r ?_
        refine f_ret2 hE rfl rfl rfl ?_
        replace hM := hM.addNil 1
        replace hM := hM.ownEq (m' := ([] : List UInt8).length) (cs' := bv []) rfl rfl
        replace hM := Mem.ownB (p := ([] : List UInt8)) (q := putW ls) hM hput.1.symm
        exact ⟨_, (by rw [hput.2]; rfl), hM.pick [0] rfl⟩
      · replace hE := hE'; clear hE'
        replace hb22 := not_false' hb22
        replace hb22 : mayW (ls.getD i wr0) = true := hb22
        have hst := all_take (d := wr0) hpre (by omega) hb22
        have hrg := mayW_rng hb22
        refine wp_cond_false (hE.eval rfl) ?_
        refine wp_skip ?_
        refine hK10 _ _ ?_
        refine wp_seq_k (fun K12 hK12 => ?_)
        refine wp_plain [true, true, true, true, true, true, false, true] rfl rfl ?_
        refine s_move hE rfl rfl ?_; clear hE a; intro a hE
        refine s_move hE rfl rfl ?_; clear hE a; intro a hE
        refine s_indexRd (j := i) hE rfl (hM.get 1 rfl) rfl slt77 (by first | rfl | omega) (by first | omega | (simp; omega) | (simp [*]; omega)) rfl ?_; clear hE a; intro a p25 hE hc25 hp25
        have hlj25 : i < ls.length := (by first | omega | (simp; omega))
        have hok25 := ho_ls _ (getD_mem (d := wr0) hlj25)
        rw [flat_elem (d := wr0) (fun x hx => wcl_len ((ho_ls x hx)).1) hlj25] at hc25
        refine s_fieldAtN (m := 1) hE rfl hc25 fo84_1 rfl ?_; clear hE a; intro a p26 hE hc26 hp26
        replace hc26 : (cellsAt _ [.int .i64 ((ls.getD i wr0).2.1)]).holds _ := hc26
        refine s_loadAt1 hE rfl hc26 one3 (by intro X h; cases h) rfl ?_; clear hE a; intro a hE
        refine s_conv hE rfl (cnv_int Try.underlying3 Try.underlying24 (wrap_u64_toNat (z := (ls.getD i wr0).2.1) (by omega) (by omega))) rfl ?_; clear hE a; intro a hE
        refine s_call hE rfl Try.call54 (rnumber_c (((ls.getD i wr0).2.1).toNat) 4 _ (by first | omega | assumption | (simp; done) | (simp; omega) | decide) (by first | omega | assumption | (simp; done) | (simp; omega) | decide)) rfl ?_
        rintro e w3 ⟨v29, rfl, hN⟩
        refine ⟨_, rfl, trivial, ?_⟩; clear hE a; intro a hE
        replace hM : Mem _ _ w3 [_, _, _] := hM.call0 hN ⟨rfl, trivial⟩; clear hN
        refine s_assign hE rfl rfl ?_; clear hE a; intro a hE
        refine q_nil ?_
        replace hE : Env a 57 [(0, _), (2, _), (3, _), (4, _), (5, _), (6, _), (10, _), (14, _), (22, _)] := hE.sel [0, 2, 3, 4, 5, 6, 10, 14, 22] rfl
        refine hK12 _ _ ?_
        refine wp_seq_k (fun K13 hK13 => ?_)
        refine wp_plain [true, true, true, true, true, true, true, false, false, true] rfl rfl ?_
        refine s_move hE rfl rfl ?_; clear hE a; intro a hE
        refine s_move hE rfl rfl ?_; clear hE a; intro a hE
        refine s_move hE rfl rfl ?_; clear hE a; intro a hE
        refine s_indexRd (j := i) hE rfl (hM.get 2 rfl) rfl slt77 (by first | rfl | omega) (by first | omega | (simp; omega) | (simp [*]; omega)) rfl ?_; clear hE a; intro a p33 hE hc33 hp33
        have hlj33 : i < ls.length := (by first | omega | (simp; omega))
        have hok33 := ho_ls _ (getD_mem (d := wr0) hlj33)
        rw [flat_elem (d := wr0) (fun x hx => wcl_len ((ho_ls x hx)).1) hlj33] at hc33
        refine s_fieldAtN (m := 1) hE rfl hc33 fo84_0 rfl ?_; clear hE a; intro a p34 hE hc34 hp34
        replace hc34 : (cellsAt _ [.int .i64 ((ls.getD i wr0).1)]).holds _ := hc34
        refine s_loadAt1 hE rfl hc34 one3 (by intro X h; cases h) rfl ?_; clear hE a; intro a hE
        refine s_conv hE rfl (cnv_int Try.underlying3 Try.underlying5 (wrap_u8_toNat (z := (ls.getD i wr0).1) (by omega))) rfl ?_; clear hE a; intro a hE
        refine s_buildSlice (xs := [.tmp 36]) (bv [UInt8.ofNat ((ls.getD i wr0).1).toNat]) hE hM sl55 rfl rfl rfl (by intro v hv; first | (cases hv; done) | (obtain ⟨x, _, rfl⟩ := List.mem_map.1 (show v ∈ bv [UInt8.ofNat ((ls.getD i wr0).1).toNat] from hv); rfl)) rfl rfl rfl rfl ?_; clear hE a; intro a v37 w4 hE hM'
        clear hM; have hM := hM'; clear hM'
        replace hM := hM.ownEq (m' := [UInt8.ofNat ((ls.getD i wr0).1).toNat].length) (cs' := bv [UInt8.ofNat ((ls.getD i wr0).1).toNat]) rfl rfl
        replace hM : Mem _ _ w4 [_, _, _, _] := hM.pick [2, 0, 1, 3] rfl
        obtain ⟨cq1, hq1⟩ := own_rd (hM.get 1 rfl)
        refine s_append hE rfl rfl hM sl55 (Src.rd Try.underlying55 hq1 (bv_one _)) (len47 (by have hl_x : ((ls.take i).flatMap wB).length = 69 * i := (wBt_len ho_ls (by omega)); have hl_y : [UInt8.ofNat ((ls.getD i wr0).1).toNat].length = 1 := (by first | (simp; done) | (simp [*]; done) | (simp; omega)); first | omega | (simp; done) | (simp; omega))) (by have hl_x : ((ls.take i).flatMap wB).length = 69 * i := (wBt_len ho_ls (by omega)); have hl_y : [UInt8.ofNat ((ls.getD i wr0).1).toNat].length = 1 := (by first | (simp; done) | (simp [*]; done) | (simp; omega)); first | omega | (simp; done) | (simp; omega)) (by intro X h; cases h) rfl ?_; clear hE a; intro a v38 w5 hE hM'; clear hM; have hM := hM'; clear hM'
        replace hM := Mem.ownApp (p := (ls.take i).flatMap wB) (q := [UInt8.ofNat ((ls.getD i wr0).1).toNat]) hM (by first | rfl | (simp; done))
        replace hM : Mem _ _ w5 [_, _, _] := hM.pick [0, 2, 3] rfl
        refine s_assign hE rfl rfl ?_; clear hE a; intro a hE
        refine q_nil ?_
        replace hE : Env a 57 [(0, _), (2, _), (3, _), (4, _), (5, _), (6, _), (10, _), (14, _), (22, _)] := hE.sel [0, 2, 3, 4, 5, 6, 10, 14, 22] rfl
        refine hK13 _ _ ?_
        refine wp_seq_k (fun K14 hK14 => ?_)
        refine wp_plain [true, true, false, true] rfl rfl ?_
        refine s_move hE rfl rfl ?_; clear hE a; intro a hE
        refine s_move hE rfl rfl ?_; clear hE a; intro a hE
        obtain ⟨cq2, hq2⟩ := own_rd (hM.get 1 rfl)
        refine s_append hE rfl rfl hM sl55 (Src.rd Try.underlying55 hq2 (bv_one _)) (len47 (by have hl_x : (((ls.take i).flatMap wB) ++ [UInt8.ofNat ((ls.getD i wr0).1).toNat]).length = 69 * i + 1 := (by have hl_p : ((ls.take i).flatMap wB).length = 69 * i := (wBt_len ho_ls (by omega)); have hl_q : [UInt8.ofNat ((ls.getD i wr0).1).toNat].length = 1 := (by first | (simp; done) | (simp [*]; done) | (simp; omega)); rw [List.length_append]; omega); have hl_y : (laid 4 (((ls.getD i wr0).2.1).toNat)).length = 4 := (by simp); first | omega | (simp; done) | (simp; omega))) (by have hl_x : (((ls.take i).flatMap wB) ++ [UInt8.ofNat ((ls.getD i wr0).1).toNat]).length = 69 * i + 1 := (by have hl_p : ((ls.take i).flatMap wB).length = 69 * i := (wBt_len ho_ls (by omega)); have hl_q : [UInt8.ofNat ((ls.getD i wr0).1).toNat].length = 1 := (by first | (simp; done) | (simp [*]; done) | (simp; omega)); rw [List.length_append]; omega); have hl_y : (laid 4 (((ls.getD i wr0).2.1).toNat)).length = 4 := (by simp); first | omega | (simp; done) | (simp; omega)) (by intro X h; cases h) rfl ?_; clear hE a; intro a v41 w6 hE hM'; clear hM; have hM := hM'; clear hM'
        replace hM := Mem.ownApp (p := ((ls.take i).flatMap wB) ++ [UInt8.ofNat ((ls.getD i wr0).1).toNat]) (q := laid 4 (((ls.getD i wr0).2.1).toNat)) hM (by first | rfl | (simp; done))
        refine s_assign hE rfl rfl ?_; clear hE a; intro a hE
        refine q_nil ?_
        replace hE : Env a 57 [(0, _), (2, _), (3, _), (4, _), (5, _), (6, _), (10, _), (14, _), (22, _)] := hE.sel [0, 2, 3, 4, 5, 6, 10, 14, 22] rfl
        refine hK14 _ _ ?_
        refine wp_seq_k (fun K15 hK15 => ?_)
        refine wp_plain [true] rfl rfl ?_
        refine s_assign hE rfl rfl ?_; clear hE a; intro a hE
        refine q_nil ?_
        refine hK15 _ _ ?_
        refine wp_block ?_
        replace hM := Mem.ownB (p := (((ls.take i).flatMap wB) ++ [UInt8.ofNat ((ls.getD i wr0).1).toNat]) ++ (laid 4 (((ls.getD i wr0).2.1).toNat))) (q := (((ls.take i).flatMap wB ++ [UInt8.ofNat (ls.getD i wr0).1.toNat]) ++ laid 4 (ls.getD i wr0).2.1.toNat) ++ (ls.getD i wr0).2.2.take 0) hM (by simp)
        refine c_loop (fun (k : Nat) a w' => k ≤ 64 ∧ ∃ vl4, Env a 57 [(0, v), (2, .slice none 0 0), (3, .int .i64 0), (4, vl4), (5, .int .i64 ((i : Nat) : Int)), (6, v29), (7, .int .i64 ((k : Nat) : Int)), (10, .bool false), (14, .bool true), (22, .bool false)] ∧ Mem w [] w' [own vl4 1 ((((ls.take i).flatMap wB ++ [UInt8.ofNat (ls.getD i wr0).1.toNat]) ++ laid 4 (ls.getD i wr0).2.1.toNat) ++ (ls.getD i wr0).2.2.take k).length (bv ((((ls.take i).flatMap wB ++ [UInt8.ofNat (ls.getD i wr0).1.toNat]) ++ laid 4 (ls.getD i wr0).2.1.toNat) ++ (ls.getD i wr0).2.2.take k)), own v29 1 (laid 4 (((ls.getD i wr0).2.1).toNat)).length (bv (laid 4 (((ls.getD i wr0).2.1).toNat))), rd v 66 ls.length c (ls.flatMap wcl)]) (fun k => 64 - k) 0 ⟨Nat.zero_le _, _, hE.sel [0, 2, 3, 4, 5, 6, 7, 10, 14, 22] rfl, hM⟩ ?_
        clear hE hM a; rintro k a w7 ⟨hk, vl4, hE, hM⟩
        refine wp_seq_k (fun K16 hK16 => ?_)
        refine wp_seq_k (fun K17 hK17 => ?_)
        refine wp_plain [true, true] rfl rfl ?_
        refine s_move hE rfl rfl ?_; clear hE a; intro a hE
        refine s_bin hE rfl rfl bin_lss rfl ?_; clear hE a; intro a hE
        refine q_nil ?_
        replace hE : Env a 57 [(0, _), (2, _), (3, _), (4, _), (5, _), (6, _), (7, _), (10, _), (14, _), (22, _), (43, _)] := hE.sel [0, 2, 3, 4, 5, 6, 7, 10, 14, 22, 43] rfl
        refine hK17 _ _ ?_
        refine hE.split 43 rfl (fun hb43 hE' => ?_) (fun hb43 hE' => ?_)
        · replace hE := hE'; clear hE'
          replace hb43 := of_decide_eq_true hb43
          replace hb43 : k < 64 := by omega
          replace hb43 : k < 64 := by omega
          refine wp_cond_true (hE.eval rfl) ?_
          refine wp_skip ?_
          refine hK16 _ _ ?_
          refine wp_seq_k (fun K18 hK18 => ?_)
          refine wp_block ?_
          refine wp_plain [true, true, true, true, true, true, true, true, false, false, true] rfl rfl ?_
          refine s_move hE rfl rfl ?_; clear hE a; intro a hE
          refine s_move hE rfl rfl ?_; clear hE a; intro a hE
          refine s_move hE rfl rfl ?_; clear hE a; intro a hE
          refine s_move hE rfl rfl ?_; clear hE a; intro a hE
          refine s_indexRd (j := i) hE rfl (hM.get 2 rfl) rfl slt77 (by first | rfl | omega) (by first | omega | (simp; omega) | (simp [*]; omega)) rfl ?_; clear hE a; intro a p50 hE hc50 hp50
          have hlj50 : i < ls.length := (by first | omega | (simp; omega))
          have hok50 := ho_ls _ (getD_mem (d := wr0) hlj50)
          rw [flat_elem (d := wr0) (fun x hx => wcl_len ((ho_ls x hx)).1) hlj50] at hc50
          refine s_fieldAtN (m := 64) hE rfl hc50 fo84_2 rfl ?_; clear hE a; intro a p51 hE hc51 hp51
          rw [wcl_data hok50.1] at hc51
          refine s_indexAt (j := k) hE rfl hc51 rfl arr59 (by first | rfl | omega) (by first | omega | decide) rfl ?_; clear hE a; intro a p52 hE hc52 hp52
          rw [bv_elem (by have hl_ : ((ls.getD i wr0).2.2).length = 64 := hok50.1; first | omega | (simp; omega))] at hc52
          refine s_loadAt1 hE rfl hc52 one5 (by intro X h; cases h) rfl ?_; clear hE a; intro a hE
          refine s_buildSlice (xs := [.tmp 53]) (bv [((ls.getD i wr0).2.2).getD k 0]) hE hM sl55 rfl rfl rfl (by intro v hv; first | (cases hv; done) | (obtain ⟨x, _, rfl⟩ := List.mem_map.1 (show v ∈ bv [((ls.getD i wr0).2.2).getD k 0] from hv); rfl)) rfl rfl rfl rfl ?_; clear hE a; intro a v54 w8 hE hM'
          clear hM; have hM := hM'; clear hM'
          replace hM := hM.ownEq (m' := [((ls.getD i wr0).2.2).getD k 0].length) (cs' := bv [((ls.getD i wr0).2.2).getD k 0]) rfl rfl
          replace hM : Mem _ _ w8 [_, _, _, _] := hM.pick [1, 0, 2, 3] rfl
          obtain ⟨cq3, hq3⟩ := own_rd (hM.get 1 rfl)
          refine s_append hE rfl rfl hM sl55 (Src.rd Try.underlying55 hq3 (bv_one _)) (len47 (by have hl_x : ((((ls.take i).flatMap wB ++ [UInt8.ofNat (ls.getD i wr0).1.toNat]) ++ laid 4 (ls.getD i wr0).2.1.toNat) ++ (ls.getD i wr0).2.2.take k).length = 69 * i + 5 + k := (by have h1 := wBt_len (i := i) ho_ls (by omega); have h2 := hok19.1; simp only [List.length_append, List.length_take, h1, h2, List.length_singleton, laid_length]; omega); have hl_y : [((ls.getD i wr0).2.2).getD k 0].length = 1 := (by first | (simp; done) | (simp [*]; done) | (simp; omega)); first | omega | (simp; done) | (simp; omega))) (by have hl_x : ((((ls.take i).flatMap wB ++ [UInt8.ofNat (ls.getD i wr0).1.toNat]) ++ laid 4 (ls.getD i wr0).2.1.toNat) ++ (ls.getD i wr0).2.2.take k).length = 69 * i + 5 + k := (by have h1 := wBt_len (i := i) ho_ls (by omega); have h2 := hok19.1; simp only [List.length_append, List.length_take, h1, h2, List.length_singleton, laid_length]; omega); have hl_y : [((ls.getD i wr0).2.2).getD k 0].length = 1 := (by first | (simp; done) | (simp [*]; done) | (simp; omega)); first | omega | (simp; done) | (simp; omega)) (by intro X h; cases h) rfl ?_; clear hE a; intro a v55 w9 hE hM'; clear hM; have hM := hM'; clear hM'
          replace hM := Mem.ownApp (p := (((ls.take i).flatMap wB ++ [UInt8.ofNat (ls.getD i wr0).1.toNat]) ++ laid 4 (ls.getD i wr0).2.1.toNat) ++ (ls.getD i wr0).2.2.take k) (q := [((ls.getD i wr0).2.2).getD k 0]) hM (by first | rfl | (simp; done))
          replace hM : Mem _ _ w9 [_, _, _] := hM.pick [0, 2, 3] rfl
          refine s_assign hE rfl rfl ?_; clear hE a; intro a hE
          refine q_nil ?_
          replace hE : Env a 57 [(0, _), (2, _), (3, _), (4, _), (5, _), (6, _), (7, _), (10, _), (14, _), (22, _), (43, _)] := hE.sel [0, 2, 3, 4, 5, 6, 7, 10, 14, 22, 43] rfl
          refine q_block_n ?_
          refine hK18 _ _ ?_
          refine wp_plain [true, true, true] rfl rfl ?_
          refine s_move hE rfl rfl ?_; clear hE a; intro a hE
          refine s_bin hE rfl rfl (show Bin _ _ _ _ _ (.int .i64 ((k + 1 : Nat) : Int)) from bin_add (by rw [wrap_i64 (by omega) (by omega)]; omega)) rfl ?_; clear hE a; intro a hE
          refine s_assign hE rfl rfl ?_; clear hE a; intro a hE
          refine q_nil ?_
          replace hE : Env a 57 [(0, _), (2, _), (3, _), (4, _), (5, _), (6, _), (7, _), (10, _), (14, _), (22, _), (43, _)] := hE.sel [0, 2, 3, 4, 5, 6, 7, 10, 14, 22, 43] rfl
          replace hE := hE.cast 7 rfl (show _ = Value.int .i64 (((k + 1) : Nat) : Int) from (congrArg _ (by omega)))
          replace hM := Mem.ownB (p := ((((ls.take i).flatMap wB ++ [UInt8.ofNat (ls.getD i wr0).1.toNat]) ++ laid 4 (ls.getD i wr0).2.1.toNat) ++ (ls.getD i wr0).2.2.take k) ++ [((ls.getD i wr0).2.2).getD k 0]) (q := (((ls.take i).flatMap wB ++ [UInt8.ofNat (ls.getD i wr0).1.toNat]) ++ laid 4 (ls.getD i wr0).2.1.toNat) ++ (ls.getD i wr0).2.2.take (k + 1)) hM (by rw [List.append_assoc, ← take_snoc (by have := hok19.1; omega)])
          replace hM : Mem _ _ w9 [_, _, _] := hM.pick [0, 1, 2] rfl
          exact ⟨k + 1, ⟨by omega, _, hE.sel [0, 2, 3, 4, 5, 6, 7, 10, 14, 22] rfl, hM⟩, by omega⟩
        · replace hE := hE'; clear hE'
          replace hb43 := of_decide_eq_false hb43
          replace hb43 : ¬ (k < 64) := by omega
          obtain rfl : 64 = k := by omega
          replace hM := Mem.ownB (p := (((ls.take i).flatMap wB ++ [UInt8.ofNat (ls.getD i wr0).1.toNat]) ++ laid 4 (ls.getD i wr0).2.1.toNat) ++ (ls.getD i wr0).2.2.take 64) (q := (((ls.take i).flatMap wB ++ [UInt8.ofNat (ls.getD i wr0).1.toNat]) ++ laid 4 (ls.getD i wr0).2.1.toNat) ++ (ls.getD i wr0).2.2) hM (by rw [take_all hok19.1])
          refine wp_cond_false (hE.eval rfl) ?_
          refine wp_exit ?_
          refine q_then_e ?_
          refine q_then_e ?_
          refine q_block_x ?_
          refine q_block_n ?_
          refine hK9 _ _ ?_
          refine wp_plain [true, true, true] rfl rfl ?_
          refine s_move hE rfl rfl ?_; clear hE a; intro a hE
          refine s_bin hE rfl rfl (show Bin _ _ _ _ _ (.int .i64 ((i + 1 : Nat) : Int)) from bin_add (by rw [wrap_i64 (by omega) (by omega)]; omega)) rfl ?_; clear hE a; intro a hE
          refine s_assign hE rfl rfl ?_; clear hE a; intro a hE
          refine q_nil ?_
          replace hE : Env a 57 [(0, _), (2, _), (3, _), (4, _), (5, _), (6, _), (7, _), (10, _), (14, _), (22, _), (43, _)] := hE.sel [0, 2, 3, 4, 5, 6, 7, 10, 14, 22, 43] rfl
          replace hE := hE.cast 5 rfl (show _ = Value.int .i64 (((i + 1) : Nat) : Int) from (congrArg _ (by omega)))
          replace hM := Mem.ownB (p := (((ls.take i).flatMap wB ++ [UInt8.ofNat (ls.getD i wr0).1.toNat]) ++ laid 4 (ls.getD i wr0).2.1.toNat) ++ (ls.getD i wr0).2.2) (q := (ls.take (i + 1)).flatMap wB) hM (wB_step (by omega))
          replace hM : Mem _ _ w7 [_, _] := hM.pick [0, 2] rfl
          exact ⟨i + 1, ⟨by omega, hst, _, hE.sel [0, 2, 3, 4, 5, 10] rfl, hM⟩, by omega⟩
    · replace hE := hE'; clear hE'
      replace hb14 := of_decide_eq_false hb14
      replace hb14 : ¬ (i < ls.length) := by omega
      obtain rfl : ls.length = i := by omega
      replace hM := Mem.ownB (p := (ls.take ls.length).flatMap wB) (q := ls.flatMap wB) hM (by rw [List.take_length])
      have hput := putW_ok (ls := ls) (by omega) (by rw [List.take_length] at hpre; exact hpre)
      refine wp_cond_false (hE.eval rfl) ?_
      refine wp_exit ?_
      refine q_then_e ?_
      refine q_then_e ?_
      refine q_block_x ?_
      refine hK5 _ _ ?_
      refine wp_seq_k (fun K9 hK9 => ?_)
      refine wp_plain [true, true, true] rfl rfl ?_
      refine s_move hE rfl rfl ?_; clear hE a; intro a hE
      refine s_assign hE rfl rfl ?_; clear hE a; intro a hE
      refine s_assign hE rfl rfl ?_; clear hE a; intro a hE
      refine q_nil ?_
      replace hE : Env a 57 [(0, _), (2, _), (3, _), (4, _), (5, _), (10, _), (14, _)] := hE.sel [0, 2, 3, 4, 5, 10, 14] rfl
      refine hK9 _ _ ?_
      refine wp_ret ?_
      refine f_ret2 hE rfl rfl rfl ?_
      replace hM := Mem.ownB (p := ls.flatMap wB) (q := putW ls) hM hput.1.symm
      exact ⟨_, (by rw [hput.2]; rfl), hM.pick [0] rfl⟩
end Go.Proofs.Ytlieojojahhmmaa
