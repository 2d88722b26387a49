/- PbkdfBegins of casematelaw05 returns true for whatever case and size; its bytes read behind the call as before. No condition. -/
import Derived.Test.YthagednepehliaaDoorLp
import Derived.Test.YthagednepehliaaDoorTie
import Derived.Test.YthagednepehliaaDoorCards
namespace Go.Proofs.YthagednepehliaaDoor
open Go Go.Kx
open Go.ChangeShapes Go.WideShapes Go.ChangeAt Go.RowKit
theorem fo34_0 : fieldOff Tryd.prog 34 0 = some 0 := by kernel_rfl
theorem fo34_1 : fieldOff Tryd.prog 34 1 = some 1 := by kernel_rfl
theorem fo34_2 : fieldOff Tryd.prog 34 2 = some 2 := by kernel_rfl
theorem fo34_3 : fieldOff Tryd.prog 34 3 = some 3 := by kernel_rfl
theorem row34 : RowT Tryd.prog 34 4 := RowT.of Tryd.underlying34 rfl (by kernel_rfl)
theorem large_c (v u : Value) (pass salt : List UInt8) (c cu : Nat) (z y : Int) (w : World) (hr : (rd v 1 pass.length c (bv pass)).holds w) (hu : (rd u 1 salt.length cu (bv salt)).holds w) : Calls Tryd.prog 20 #[.agg #[v, u, .int .i64 z, .int .i64 y]] w fun e w' => ∃ b, e = .returned (.bool b) ∧ (b = false → pass.length ≤ 2000 ∧ salt.length ≤ 2000) ∧ Mem w [] w' [] := by
  have hM := Mem.startR2 hr hu rfl rfl
  have h1 := rd_one hr
  have h2 := rd_one hu
  refine f_enter 33 Tryd.func20 rfl rfl rfl ?_
  intro a hE
  replace hE : Env a 33 [(0, _)] := hE
  refine wp_seq_k (fun K1 hK1 => ?_)
  refine wp_plain [false, true] rfl rfl ?_
  refine s_box (ss := [[v, u, .int .i64 z, .int .i64 y]]) [4] hE hM rfl rfl rfl rfl ?_; clear hE a; intro a b1 w1 hE hM'
  clear hM; have hM := hM'; clear hM'
  refine s_assign hE rfl rfl ?_; clear hE a; intro a hE
  refine q_nil ?_
  replace hE : Env a 33 [(1, _), (2, _)] := hE.sel [1, 2] rfl
  refine hK1 _ _ ?_
  refine wp_seq_k (fun K2 hK2 => ?_)
  refine wp_plain [true, true, true, true, true, true, true, true, true, true, true, true, true, true, true, true, true, true, true, true, true, true, true, true, true, true, true, true, true, true, true] rfl rfl ?_
  refine s_fieldAddr hE rfl fo34_0 rfl ?_; clear hE a; intro a hE
  refine s_loadIdx (j := 0) hE rfl rfl (hM.get 0 rfl) rfl one22 (by intro X h; cases h) rfl ?_; clear hE a; intro a hE
  refine s_len hE rfl Tryd.underlying22 (rd_slice (hM.get 1 rfl)) rfl ?_; clear hE a; intro a hE
  refine s_bin hE rfl rfl bin_gtr rfl ?_; clear hE a; intro a hE
  refine s_move hE rfl rfl ?_; clear hE a; intro a hE
  refine hE.split 7 rfl (fun hb7 hE' => ?_) (fun hb7 hE' => ?_)
  · replace hE := hE'; clear hE'
    replace hb7 := of_decide_eq_true hb7
    refine g_no (b := true) hE rfl rfl rfl ?_; clear hE a; intro a hE
    refine g_no (b := true) hE rfl rfl rfl ?_; clear hE a; intro a hE
    refine g_no (b := true) hE rfl rfl rfl ?_; clear hE a; intro a hE
    refine g_no (b := true) hE rfl rfl rfl ?_; clear hE a; intro a hE
    refine s_pickt hE rfl rfl rfl ?_; clear hE a; intro a hE
    refine s_move hE rfl rfl ?_; clear hE a; intro a hE
    refine g_no (b := true) hE rfl rfl rfl ?_; clear hE a; intro a hE
    refine g_no (b := true) hE rfl rfl rfl ?_; clear hE a; intro a hE
    refine g_no (b := true) hE rfl rfl rfl ?_; clear hE a; intro a hE
    refine g_no (b := true) hE rfl rfl rfl ?_; clear hE a; intro a hE
    refine g_und hE rfl rfl rfl ?_; clear hE a; intro a hE
    refine g_und hE rfl rfl rfl ?_; clear hE a; intro a hE
    refine g_und hE rfl rfl rfl ?_; clear hE a; intro a hE
    refine g_no (b := true) hE rfl rfl rfl ?_; clear hE a; intro a hE
    refine g_no (b := true) hE rfl rfl rfl ?_; clear hE a; intro a hE
    refine g_und hE rfl rfl rfl ?_; clear hE a; intro a hE
    refine g_und hE rfl rfl rfl ?_; clear hE a; intro a hE
    refine g_und hE rfl rfl rfl ?_; clear hE a; intro a hE
    refine g_no (b := true) hE rfl rfl rfl ?_; clear hE a; intro a hE
    refine g_no (b := true) hE rfl rfl rfl ?_; clear hE a; intro a hE
    refine g_und hE rfl rfl rfl ?_; clear hE a; intro a hE
    refine g_und hE rfl rfl rfl ?_; clear hE a; intro a hE
    refine g_und hE rfl rfl rfl ?_; clear hE a; intro a hE
    refine g_no (b := true) hE rfl rfl rfl ?_; clear hE a; intro a hE
    refine s_pickt hE rfl rfl rfl ?_; clear hE a; intro a hE
    refine s_assign hE rfl rfl ?_; clear hE a; intro a hE
    refine q_nil ?_
    replace hE : Env a 33 [(2, _)] := hE.sel [2] rfl
    refine hK2 _ _ ?_
    refine wp_ret ?_
    refine f_ret1 hE rfl rfl ?_
    exact ⟨_, rfl, fun h => ⟨(by first | omega | cases h), (by first | omega | cases h)⟩, hM.nil⟩
  · replace hE := hE'; clear hE'
    replace hb7 := of_decide_eq_false hb7
    refine g_yes hE rfl rfl ?_
    refine s_fieldAddr hE rfl fo34_1 rfl ?_; clear hE a; intro a hE
    refine g_yes hE rfl rfl ?_
    refine s_loadIdx (j := 1) hE rfl rfl (hM.get 0 rfl) rfl one22 (by intro X h; cases h) rfl ?_; clear hE a; intro a hE
    refine g_yes hE rfl rfl ?_
    refine s_len hE rfl Tryd.underlying22 (rd_slice (hM.get 2 rfl)) rfl ?_; clear hE a; intro a hE
    refine g_yes hE rfl rfl ?_
    refine s_bin hE rfl rfl bin_gtr rfl ?_; clear hE a; intro a hE
    refine s_pickf hE rfl rfl rfl ?_; clear hE a; intro a hE
    refine s_move hE rfl rfl ?_; clear hE a; intro a hE
    refine hE.split 13 rfl (fun hb13 hE' => ?_) (fun hb13 hE' => ?_)
    · replace hE := hE'; clear hE'
      replace hb13 := of_decide_eq_true hb13
      refine g_no (b := true) hE rfl rfl rfl ?_; clear hE a; intro a hE
      refine g_no (b := true) hE rfl rfl rfl ?_; clear hE a; intro a hE
      refine g_no (b := true) hE rfl rfl rfl ?_; clear hE a; intro a hE
      refine g_no (b := true) hE rfl rfl rfl ?_; clear hE a; intro a hE
      refine g_und hE rfl rfl rfl ?_; clear hE a; intro a hE
      refine g_und hE rfl rfl rfl ?_; clear hE a; intro a hE
      refine g_und hE rfl rfl rfl ?_; clear hE a; intro a hE
      refine g_no (b := true) hE rfl rfl rfl ?_; clear hE a; intro a hE
      refine g_no (b := true) hE rfl rfl rfl ?_; clear hE a; intro a hE
      refine g_und hE rfl rfl rfl ?_; clear hE a; intro a hE
      refine g_und hE rfl rfl rfl ?_; clear hE a; intro a hE
      refine g_und hE rfl rfl rfl ?_; clear hE a; intro a hE
      refine g_no (b := true) hE rfl rfl rfl ?_; clear hE a; intro a hE
      refine g_no (b := true) hE rfl rfl rfl ?_; clear hE a; intro a hE
      refine g_und hE rfl rfl rfl ?_; clear hE a; intro a hE
      refine g_und hE rfl rfl rfl ?_; clear hE a; intro a hE
      refine g_und hE rfl rfl rfl ?_; clear hE a; intro a hE
      refine g_no (b := true) hE rfl rfl rfl ?_; clear hE a; intro a hE
      refine s_pickt hE rfl rfl rfl ?_; clear hE a; intro a hE
      refine s_assign hE rfl rfl ?_; clear hE a; intro a hE
      refine q_nil ?_
      replace hE : Env a 33 [(2, _)] := hE.sel [2] rfl
      refine hK2 _ _ ?_
      refine wp_ret ?_
      refine f_ret1 hE rfl rfl ?_
      exact ⟨_, rfl, fun h => ⟨(by first | omega | cases h), (by first | omega | cases h)⟩, hM.nil⟩
    · replace hE := hE'; clear hE'
      replace hb13 := of_decide_eq_false hb13
      refine g_yes hE rfl rfl ?_
      refine s_fieldAddr hE rfl fo34_2 rfl ?_; clear hE a; intro a hE
      refine g_yes hE rfl rfl ?_
      refine s_loadIdx (j := 2) hE rfl rfl (hM.get 0 rfl) rfl one3 (by intro X h; cases h) rfl ?_; clear hE a; intro a hE
      refine g_yes hE rfl rfl ?_
      refine s_bin hE rfl rfl bin_gtr rfl ?_; clear hE a; intro a hE
      refine g_yes hE rfl rfl ?_
      refine s_move hE rfl rfl ?_; clear hE a; intro a hE
      refine hE.split 17 rfl (fun hb17 hE' => ?_) (fun hb17 hE' => ?_)
      · replace hE := hE'; clear hE'
        replace hb17 := of_decide_eq_true hb17
        refine g_yes hE rfl rfl ?_
        refine s_fieldAddr hE rfl fo34_2 rfl ?_; clear hE a; intro a hE
        refine g_yes hE rfl rfl ?_
        refine s_loadIdx (j := 2) hE rfl rfl (hM.get 0 rfl) rfl one3 (by intro X h; cases h) rfl ?_; clear hE a; intro a hE
        refine g_yes hE rfl rfl ?_
        refine s_bin hE rfl rfl bin_leq rfl ?_; clear hE a; intro a hE
        refine g_yes hE rfl rfl ?_
        refine s_pickt hE rfl rfl rfl ?_; clear hE a; intro a hE
        refine g_yes hE rfl rfl ?_
        refine s_move hE rfl rfl ?_; clear hE a; intro a hE
        refine hE.split 22 rfl (fun hb22 hE' => ?_) (fun hb22 hE' => ?_)
        · replace hE := hE'; clear hE'
          replace hb22 := of_decide_eq_true hb22
          refine g_yes hE rfl rfl ?_
          refine s_fieldAddr hE rfl fo34_3 rfl ?_; clear hE a; intro a hE
          refine g_yes hE rfl rfl ?_
          refine s_loadIdx (j := 3) hE rfl rfl (hM.get 0 rfl) rfl one3 (by intro X h; cases h) rfl ?_; clear hE a; intro a hE
          refine g_yes hE rfl rfl ?_
          refine s_bin hE rfl rfl bin_geq rfl ?_; clear hE a; intro a hE
          refine g_yes hE rfl rfl ?_
          refine s_pickt hE rfl rfl rfl ?_; clear hE a; intro a hE
          refine g_yes hE rfl rfl ?_
          refine s_move hE rfl rfl ?_; clear hE a; intro a hE
          refine hE.split 27 rfl (fun hb27 hE' => ?_) (fun hb27 hE' => ?_)
          · replace hE := hE'; clear hE'
            replace hb27 := of_decide_eq_true hb27
            refine g_yes hE rfl rfl ?_
            refine s_fieldAddr hE rfl fo34_3 rfl ?_; clear hE a; intro a hE
            refine g_yes hE rfl rfl ?_
            refine s_loadIdx (j := 3) hE rfl rfl (hM.get 0 rfl) rfl one3 (by intro X h; cases h) rfl ?_; clear hE a; intro a hE
            refine g_yes hE rfl rfl ?_
            refine s_bin hE rfl rfl bin_leq rfl ?_; clear hE a; intro a hE
            refine g_yes hE rfl rfl ?_
            refine s_pickt hE rfl rfl rfl ?_; clear hE a; intro a hE
            refine s_pickf hE rfl rfl rfl ?_; clear hE a; intro a hE
            refine s_assign hE rfl rfl ?_; clear hE a; intro a hE
            refine q_nil ?_
            replace hE : Env a 33 [(2, _)] := hE.sel [2] rfl
            refine hK2 _ _ ?_
            refine wp_ret ?_
            refine f_ret1 hE rfl rfl ?_
            exact ⟨_, rfl, fun h => ⟨(by first | omega | cases h), (by first | omega | cases h)⟩, hM.nil⟩
          · replace hE := hE'; clear hE'
            replace hb27 := of_decide_eq_false hb27
            refine g_no (b := false) hE rfl rfl rfl ?_; clear hE a; intro a hE
            refine g_no (b := false) hE rfl rfl rfl ?_; clear hE a; intro a hE
            refine g_no (b := false) hE rfl rfl rfl ?_; clear hE a; intro a hE
            refine g_yes hE rfl rfl ?_
            refine s_pickf hE rfl rfl rfl ?_; clear hE a; intro a hE
            refine s_pickf hE rfl rfl rfl ?_; clear hE a; intro a hE
            refine s_assign hE rfl rfl ?_; clear hE a; intro a hE
            refine q_nil ?_
            replace hE : Env a 33 [(2, _)] := hE.sel [2] rfl
            refine hK2 _ _ ?_
            refine wp_ret ?_
            refine f_ret1 hE rfl rfl ?_
            exact ⟨_, rfl, fun h => ⟨(by first | omega | cases h), (by first | omega | cases h)⟩, hM.nil⟩
        · replace hE := hE'; clear hE'
          replace hb22 := of_decide_eq_false hb22
          refine g_no (b := false) hE rfl rfl rfl ?_; clear hE a; intro a hE
          refine g_no (b := false) hE rfl rfl rfl ?_; clear hE a; intro a hE
          refine g_no (b := false) hE rfl rfl rfl ?_; clear hE a; intro a hE
          refine g_yes hE rfl rfl ?_
          refine s_pickf hE rfl rfl rfl ?_; clear hE a; intro a hE
          refine g_yes hE rfl rfl ?_
          refine s_move hE rfl rfl ?_; clear hE a; intro a hE
          refine g_no (b := false) hE rfl rfl rfl ?_; clear hE a; intro a hE
          refine g_no (b := false) hE rfl rfl rfl ?_; clear hE a; intro a hE
          refine g_no (b := false) hE rfl rfl rfl ?_; clear hE a; intro a hE
          refine g_yes hE rfl rfl ?_
          refine s_pickf hE rfl rfl rfl ?_; clear hE a; intro a hE
          refine s_pickf hE rfl rfl rfl ?_; clear hE a; intro a hE
          refine s_assign hE rfl rfl ?_; clear hE a; intro a hE
          refine q_nil ?_
          replace hE : Env a 33 [(2, _)] := hE.sel [2] rfl
          refine hK2 _ _ ?_
          refine wp_ret ?_
          refine f_ret1 hE rfl rfl ?_
          exact ⟨_, rfl, fun h => ⟨(by first | omega | cases h), (by first | omega | cases h)⟩, hM.nil⟩
      · replace hE := hE'; clear hE'
        replace hb17 := of_decide_eq_false hb17
        refine g_no (b := false) hE rfl rfl rfl ?_; clear hE a; intro a hE
        refine g_no (b := false) hE rfl rfl rfl ?_; clear hE a; intro a hE
        refine g_no (b := false) hE rfl rfl rfl ?_; clear hE a; intro a hE
        refine g_yes hE rfl rfl ?_
        refine s_pickf hE rfl rfl rfl ?_; clear hE a; intro a hE
        refine g_yes hE rfl rfl ?_
        refine s_move hE rfl rfl ?_; clear hE a; intro a hE
        refine g_no (b := false) hE rfl rfl rfl ?_; clear hE a; intro a hE
        refine g_no (b := false) hE rfl rfl rfl ?_; clear hE a; intro a hE
        refine g_no (b := false) hE rfl rfl rfl ?_; clear hE a; intro a hE
        refine g_yes hE rfl rfl ?_
        refine s_pickf hE rfl rfl rfl ?_; clear hE a; intro a hE
        refine g_yes hE rfl rfl ?_
        refine s_move hE rfl rfl ?_; clear hE a; intro a hE
        refine g_no (b := false) hE rfl rfl rfl ?_; clear hE a; intro a hE
        refine g_no (b := false) hE rfl rfl rfl ?_; clear hE a; intro a hE
        refine g_no (b := false) hE rfl rfl rfl ?_; clear hE a; intro a hE
        refine g_yes hE rfl rfl ?_
        refine s_pickf hE rfl rfl rfl ?_; clear hE a; intro a hE
        refine s_pickf hE rfl rfl rfl ?_; clear hE a; intro a hE
        refine s_assign hE rfl rfl ?_; clear hE a; intro a hE
        refine q_nil ?_
        replace hE : Env a 33 [(2, _)] := hE.sel [2] rfl
        refine hK2 _ _ ?_
        refine wp_ret ?_
        refine f_ret1 hE rfl rfl ?_
        exact ⟨_, rfl, fun h => ⟨(by first | omega | cases h), (by first | omega | cases h)⟩, hM.nil⟩
theorem begins_bad (v u : Value) (pass salt : List UInt8) (c cu : Nat) (z y : Int) (x : UInt8) (w : World) (hG : (glb 0).holds w) (hr : (rd v 1 pass.length c (bv pass)).holds w) (hu : (rd u 1 salt.length cu (bv salt)).holds w) (hz : z < 1) : Calls Tryd.prog 5 #[.agg #[v, u, .int .i64 z, .int .i64 y], .int .u8 (x.toNat : Int)] w fun e w' => e = .returned (.bool true) ∧ Mem w [] w' [] := by
  have hM : Mem w [] w [rd v 1 pass.length c (bv pass), rd u 1 salt.length cu (bv salt), glb 0] := Mem.startR w (fun g hg => by
    simp only [List.mem_cons, List.not_mem_nil, or_false] at hg
    rcases hg with rfl | rfl | rfl
    · exact ⟨hr, rfl⟩
    · exact ⟨hu, rfl⟩
    · exact ⟨hG, rfl⟩)
  have hx := x.toNat_lt
  refine f_enter 99 Tryd.func5 rfl rfl rfl ?_
  intro a hE
  replace hE : Env a 99 [(0, _), (1, _)] := hE
  refine wp_seq_k (fun K1 hK1 => ?_)
  refine wp_plain [false, true] rfl rfl ?_
  refine s_box (ss := [[v, u, .int .i64 z, .int .i64 y]]) [4] hE hM rfl rfl rfl rfl ?_; clear hE a; intro a b2 w1 hE hM'
  clear hM; have hM := hM'; clear hM'
  refine s_assign hE rfl rfl ?_; clear hE a; intro a hE
  refine q_nil ?_
  replace hE : Env a 99 [(1, _), (2, _), (4, _)] := hE.sel [1, 2, 4] rfl
  refine hK1 _ _ ?_
  refine wp_seq_k (fun K2 hK2 => ?_)
  refine wp_seq_k (fun K3 hK3 => ?_)
  refine wp_plain [true, false, true, true, true, true, true] rfl rfl ?_
  refine s_loadN hE rfl (hM.get 0 rfl) row34 rfl (by intro X h; cases h) rfl ?_; clear hE a; intro a hE
  refine s_call hE rfl Tryd.call20 (large_c v u pass salt c cu z y _ (hM.get 1 rfl) (hM.get 2 rfl)) rfl ?_
  rintro e w2 ⟨bl, rfl, hlg, hN⟩
  refine ⟨_, rfl, trivial, ?_⟩; clear hE a; intro a hE
  replace hM : Mem _ _ w2 [_, _, _, _] := hM.call0 hN trivial; clear hN
  refine s_move hE rfl rfl ?_; clear hE a; intro a hE
  refine hE.split 14 rfl (fun hb14 hE' => ?_) (fun hb14 hE' => ?_)
  · replace hE := hE'; clear hE'
    refine g_no (b := true) hE rfl rfl rfl ?_; clear hE a; intro a hE
    refine g_no (b := true) hE rfl rfl rfl ?_; clear hE a; intro a hE
    refine g_no (b := true) hE rfl rfl rfl ?_; clear hE a; intro a hE
    refine s_pickt hE rfl rfl rfl ?_; clear hE a; intro a hE
    refine q_nil ?_
    replace hE : Env a 99 [(1, _), (2, _), (4, _), (18, _)] := hE.sel [1, 2, 4, 18] rfl
    refine hK3 _ _ ?_
    refine wp_cond_true (hE.eval rfl) ?_
    refine wp_seq_k (fun K4 hK4 => ?_)
    refine wp_plain [false, true] rfl rfl ?_
    refine s_call hE rfl Tryd.call15 (awake_c _ (hM.get 3 rfl)) rfl ?_
    rintro e w3 ⟨rfl, hN⟩
    refine ⟨_, rfl, trivial, ?_⟩; clear hE a; intro a hE
    replace hM : Mem _ _ w3 [_, _, _, _] := hM.call0 hN trivial; clear hN
    refine s_assign hE rfl rfl ?_; clear hE a; intro a hE
    refine q_nil ?_
    replace hE : Env a 99 [(1, _), (2, _), (4, _), (18, _)] := hE.sel [1, 2, 4, 18] rfl
    refine hK4 _ _ ?_
    refine wp_ret ?_
    refine q_then_r ?_
    refine f_ret1 hE rfl rfl ?_
    exact ⟨rfl, hM.nil⟩
  · replace hE := hE'; clear hE'
    obtain ⟨hp2, hs2⟩ := hlg hb14
    refine g_yes hE rfl rfl ?_
    refine s_fieldAddr hE rfl fo34_2 rfl ?_; clear hE a; intro a hE
    refine g_yes hE rfl rfl ?_
    refine s_loadIdx (j := 2) hE rfl rfl (hM.get 0 rfl) rfl one3 (by intro X h; cases h) rfl ?_; clear hE a; intro a hE
    refine g_yes hE rfl rfl ?_
    refine s_bin hE rfl rfl bin_gtr rfl ?_; clear hE a; intro a hE
    refine s_pickf hE rfl rfl rfl ?_; clear hE a; intro a hE
    refine q_nil ?_
    replace hE : Env a 99 [(1, _), (2, _), (4, _), (18, _)] := hE.sel [1, 2, 4, 18] rfl
    refine hK3 _ _ ?_
    refine hE.split 18 rfl (fun hb18 hE' => ?_) (fun hb18 hE' => ?_)
    · replace hE := hE'; clear hE'
      replace hb18 := of_decide_eq_true hb18
      refine wp_cond_true (hE.eval rfl) ?_
      refine wp_seq_k (fun K4 hK4 => ?_)
      refine wp_plain [false, true] rfl rfl ?_
      refine s_call hE rfl Tryd.call15 (awake_c _ (hM.get 3 rfl)) rfl ?_
      rintro e w3 ⟨rfl, hN⟩
      refine ⟨_, rfl, trivial, ?_⟩; clear hE a; intro a hE
      replace hM : Mem _ _ w3 [_, _, _, _] := hM.call0 hN trivial; clear hN
      refine s_assign hE rfl rfl ?_; clear hE a; intro a hE
      refine q_nil ?_
      replace hE : Env a 99 [(1, _), (2, _), (4, _), (18, _)] := hE.sel [1, 2, 4, 18] rfl
      refine hK4 _ _ ?_
      refine wp_ret ?_
      refine q_then_r ?_
      refine f_ret1 hE rfl rfl ?_
      exact ⟨rfl, hM.nil⟩
    · replace hE := hE'; clear hE'
      replace hb18 := of_decide_eq_false hb18
      obtain ⟨m0, hm0, hm1⟩ := tmod128 y
      have ht1 := Int.tmod_lt_of_pos y (show (0 : Int) < 128 by decide)
      have ht2 := Int.lt_tmod_of_pos y (show (0 : Int) < 128 by decide)
      refine wp_cond_false (hE.eval rfl) ?_
      refine wp_skip ?_
      refine hK2 _ _ ?_
      refine wp_seq_k (fun K4 hK4 => ?_)
      refine wp_drawnM hM (by kernel_rfl) (fun _ => False) [(0, true), (1, true), (2, true), (3, true), (4, true), (5, true), (6, true), (7, true), (8, true), (9, true), (10, true), (11, true)] [] (by kernel_rfl) rfl ?_
      intro w3 hM' hww3; clear hM; have hM := hM'; clear hM'
      refine s_move hE rfl rfl ?_; clear hE a; intro a hE
      refine s_conv hE rfl (cnv_int Tryd.underlying5 Tryd.underlying3 (wrap_i64 (by omega) (by omega))) rfl ?_; clear hE a; intro a hE
      refine s_bin hE rfl rfl (bin_rem_nat (s := 128) (by decide)) rfl ?_; clear hE a; intro a hE
      refine s_bin hE rfl rfl (show Bin _ _ _ _ _ (.int .i64 (((1 + x.toNat % 128) : Nat) : Int)) from bin_add (by rw [wrap_i64 (by omega) (by omega)]; omega)) rfl ?_; clear hE a; intro a hE
      refine s_fieldAddr hE rfl fo34_3 rfl ?_; clear hE a; intro a hE
      refine s_loadIdx (j := 3) hE rfl rfl (hM.get 0 rfl) rfl one3 (by intro X h; cases h; simp) rfl ?_; clear hE a; intro a hE
      refine s_bin hE rfl rfl (bin_rem (by decide) rfl) rfl ?_; clear hE a; intro a hE
      refine s_bin hE rfl rfl (bin_add (wrap_i64 (by omega) (by omega))) rfl ?_; clear hE a; intro a hE
      refine s_bin hE rfl rfl (show Bin _ _ _ _ _ (.int .i64 (m0 : Int)) from bin_rem (by decide) hm0) rfl ?_; clear hE a; intro a hE
      refine s_bin hE rfl rfl (show Bin _ _ _ _ _ (.int .i64 (((1 + m0) : Nat) : Int)) from bin_add (by rw [wrap_i64 (by omega) (by omega)]; omega)) rfl ?_; clear hE a; intro a hE
      refine s_assign hE rfl rfl ?_; clear hE a; intro a hE
      refine s_assign hE rfl rfl ?_; clear hE a; intro a hE
      refine q_nil ?_
      replace hE : Env a 99 [(2, _), (4, _), (5, _), (6, _), (18, _)] := hE.sel [2, 4, 5, 6, 18] rfl
      refine hK4 _ _ ?_
      refine wp_seq_k (fun K5 hK5 => ?_)
      refine wp_plain [true, true, true, true, true, true, true, false, true, true, true, true, true] rfl rfl ?_
      refine s_fieldAddr hE rfl fo34_0 rfl ?_; clear hE a; intro a hE
      refine s_loadIdx (j := 0) hE rfl rfl (hM.get 0 rfl) rfl one22 (by intro X h; cases h) rfl ?_; clear hE a; intro a hE
      refine s_fieldAddr hE rfl fo34_1 rfl ?_; clear hE a; intro a hE
      refine s_loadIdx (j := 1) hE rfl rfl (hM.get 0 rfl) rfl one22 (by intro X h; cases h) rfl ?_; clear hE a; intro a hE
      refine s_fieldAddr hE rfl fo34_2 rfl ?_; clear hE a; intro a hE
      refine s_loadIdx (j := 2) hE rfl rfl (hM.get 0 rfl) rfl one3 (by intro X h; cases h) rfl ?_; clear hE a; intro a hE
      refine s_move hE rfl rfl ?_; clear hE a; intro a hE
      refine s_call hE rfl Tryd.call21 (key_bad _ _ z _ _ (by omega)) rfl ?_
      rintro e w4 ⟨rfl, hN⟩
      refine ⟨_, rfl, trivial, ?_⟩; clear hE a; intro a hE
      replace hM : Mem _ _ w4 [_, _, _, _] := hM.call0 hN trivial; clear hN
      refine s_move hE rfl rfl ?_; clear hE a; intro a hE
      refine s_extract hE rfl rfl rfl ?_; clear hE a; intro a hE
      refine s_extract hE rfl rfl rfl ?_; clear hE a; intro a hE
      refine s_assign hE rfl rfl ?_; clear hE a; intro a hE
      refine s_assign hE rfl rfl ?_; clear hE a; intro a hE
      refine q_nil ?_
      replace hE : Env a 99 [(2, _), (4, _), (5, _), (6, _), (7, _), (8, _), (18, _)] := hE.sel [2, 4, 5, 6, 7, 8, 18] rfl
      refine hK5 _ _ ?_
      refine wp_seq_k (fun K6 hK6 => ?_)
      refine wp_plain [true, true, true, true, true, true, true, false, true, true, true, true, true] rfl rfl ?_
      refine s_fieldAddr hE rfl fo34_0 rfl ?_; clear hE a; intro a hE
      refine s_loadIdx (j := 0) hE rfl rfl (hM.get 0 rfl) rfl one22 (by intro X h; cases h) rfl ?_; clear hE a; intro a hE
      refine s_fieldAddr hE rfl fo34_1 rfl ?_; clear hE a; intro a hE
      refine s_loadIdx (j := 1) hE rfl rfl (hM.get 0 rfl) rfl one22 (by intro X h; cases h) rfl ?_; clear hE a; intro a hE
      refine s_fieldAddr hE rfl fo34_2 rfl ?_; clear hE a; intro a hE
      refine s_loadIdx (j := 2) hE rfl rfl (hM.get 0 rfl) rfl one3 (by intro X h; cases h) rfl ?_; clear hE a; intro a hE
      refine s_move hE rfl rfl ?_; clear hE a; intro a hE
      refine s_call hE rfl Tryd.call21 (key_bad _ _ z _ _ (by omega)) rfl ?_
      rintro e w5 ⟨rfl, hN⟩
      refine ⟨_, rfl, trivial, ?_⟩; clear hE a; intro a hE
      replace hM : Mem _ _ w5 [_, _, _, _] := hM.call0 hN trivial; clear hN
      refine s_move hE rfl rfl ?_; clear hE a; intro a hE
      refine s_extract hE rfl rfl rfl ?_; clear hE a; intro a hE
      refine s_extract hE rfl rfl rfl ?_; clear hE a; intro a hE
      refine s_assign hE rfl rfl ?_; clear hE a; intro a hE
      refine s_assign hE rfl rfl ?_; clear hE a; intro a hE
      refine q_nil ?_
      replace hE : Env a 99 [(2, _), (4, _), (5, _), (6, _), (7, _), (8, _), (9, _), (10, _), (18, _)] := hE.sel [2, 4, 5, 6, 7, 8, 9, 10, 18] rfl
      refine hK6 _ _ ?_
      refine wp_seq_k (fun K7 hK7 => ?_)
      refine wp_seq_k (fun K8 hK8 => ?_)
      refine wp_plain [true, true, true] rfl rfl ?_
      refine s_fieldAddr hE rfl fo34_2 rfl ?_; clear hE a; intro a hE
      refine s_loadIdx (j := 2) hE rfl rfl (hM.get 0 rfl) rfl one3 (by intro X h; cases h) rfl ?_; clear hE a; intro a hE
      refine s_bin hE rfl rfl bin_lss rfl ?_; clear hE a; intro a hE
      refine q_nil ?_
      replace hE : Env a 99 [(2, _), (4, _), (5, _), (6, _), (7, _), (8, _), (9, _), (10, _), (18, _), (54, _)] := hE.sel [2, 4, 5, 6, 7, 8, 9, 10, 18, 54] rfl
      refine hK8 _ _ ?_
      replace hE := hE.cast 54 rfl (show _ = Value.bool true from (congrArg Value.bool (decide_eq_true (by omega))))
      refine wp_cond_true (hE.eval rfl) ?_
      refine wp_seq_k (fun K9 hK9 => ?_)
      refine wp_plain [true, true, true, true, true, true, true, false, true, true] rfl rfl ?_
      refine s_move hE rfl rfl ?_; clear hE a; intro a hE
      refine s_bin hE rfl rfl bin_eql rfl ?_; clear hE a; intro a hE
      refine s_move hE rfl rfl ?_; clear hE a; intro a hE
      replace hE := hE.cast 57 rfl (show _ = Value.bool true from (congrArg Value.bool (by first | rfl | decide)))
      refine g_yes hE rfl rfl ?_
      refine s_move hE rfl rfl ?_; clear hE a; intro a hE
      refine g_yes hE rfl rfl ?_
      refine s_bin hE rfl rfl bin_eql rfl ?_; clear hE a; intro a hE
      refine s_pickt hE rfl rfl rfl ?_; clear hE a; intro a hE
      refine s_move hE rfl rfl ?_; clear hE a; intro a hE
      replace hE := hE.cast 61 rfl (show _ = Value.bool true from (congrArg Value.bool (by first | rfl | decide)))
      refine g_yes hE rfl rfl ?_
      refine s_call hE rfl Tryd.call15 (awake_c _ (hM.get 3 rfl)) rfl ?_
      rintro e w6 ⟨rfl, hN⟩
      refine ⟨_, rfl, trivial, ?_⟩; clear hE a; intro a hE
      replace hM : Mem _ _ w6 [_, _, _, _] := hM.call0 hN trivial; clear hN
      refine s_pickt hE rfl rfl rfl ?_; clear hE a; intro a hE
      refine s_assign hE rfl rfl ?_; clear hE a; intro a hE
      refine q_nil ?_
      replace hE : Env a 99 [(2, _), (4, _), (5, _), (6, _), (7, _), (8, _), (9, _), (10, _), (18, _), (54, _)] := hE.sel [2, 4, 5, 6, 7, 8, 9, 10, 18, 54] rfl
      refine hK9 _ _ ?_
      refine wp_ret ?_
      refine q_then_r ?_
      refine f_ret1 hE rfl rfl ?_
      exact ⟨rfl, hM.nil⟩
theorem begins_ok (v u : Value) (pass salt : List UInt8) (c cu : Nat) (z y : Int) (x : UInt8) (w : World) (hG : (glb 0).holds w) (hr : (rd v 1 pass.length c (bv pass)).holds w) (hu : (rd u 1 salt.length cu (bv salt)).holds w) (r : Nat) (hz : z = (r : Int)) (hr0 : 1 ≤ r) : Calls Tryd.prog 5 #[.agg #[v, u, .int .i64 z, .int .i64 y], .int .u8 (x.toNat : Int)] w fun e w' => e = .returned (.bool true) ∧ Mem w [] w' [] := by
  have hM : Mem w [] w [rd v 1 pass.length c (bv pass), rd u 1 salt.length cu (bv salt), glb 0] := Mem.startR w (fun g hg => by
    simp only [List.mem_cons, List.not_mem_nil, or_false] at hg
    rcases hg with rfl | rfl | rfl
    · exact ⟨hr, rfl⟩
    · exact ⟨hu, rfl⟩
    · exact ⟨hG, rfl⟩)
  have hx := x.toNat_lt
  subst hz
  refine f_enter 99 Tryd.func5 rfl rfl rfl ?_
  intro a hE
  replace hE : Env a 99 [(0, _), (1, _)] := hE
  refine wp_seq_k (fun K1 hK1 => ?_)
  refine wp_plain [false, true] rfl rfl ?_
  refine s_box (ss := [[v, u, .int .i64 (r : Int), .int .i64 y]]) [4] hE hM rfl rfl rfl rfl ?_; clear hE a; intro a b2 w1 hE hM'
  clear hM; have hM := hM'; clear hM'
  refine s_assign hE rfl rfl ?_; clear hE a; intro a hE
  refine q_nil ?_
  replace hE : Env a 99 [(1, _), (2, _), (4, _)] := hE.sel [1, 2, 4] rfl
  refine hK1 _ _ ?_
  refine wp_seq_k (fun K2 hK2 => ?_)
  refine wp_seq_k (fun K3 hK3 => ?_)
  refine wp_plain [true, false, true, true, true, true, true] rfl rfl ?_
  refine s_loadN hE rfl (hM.get 0 rfl) row34 rfl (by intro X h; cases h) rfl ?_; clear hE a; intro a hE
  refine s_call hE rfl Tryd.call20 (large_c v u pass salt c cu (r : Int) y _ (hM.get 1 rfl) (hM.get 2 rfl)) rfl ?_
  rintro e w2 ⟨bl, rfl, hlg, hN⟩
  refine ⟨_, rfl, trivial, ?_⟩; clear hE a; intro a hE
  replace hM : Mem _ _ w2 [_, _, _, _] := hM.call0 hN trivial; clear hN
  refine s_move hE rfl rfl ?_; clear hE a; intro a hE
  refine hE.split 14 rfl (fun hb14 hE' => ?_) (fun hb14 hE' => ?_)
  · replace hE := hE'; clear hE'
    refine g_no (b := true) hE rfl rfl rfl ?_; clear hE a; intro a hE
    refine g_no (b := true) hE rfl rfl rfl ?_; clear hE a; intro a hE
    refine g_no (b := true) hE rfl rfl rfl ?_; clear hE a; intro a hE
    refine s_pickt hE rfl rfl rfl ?_; clear hE a; intro a hE
    refine q_nil ?_
    replace hE : Env a 99 [(1, _), (2, _), (4, _), (18, _)] := hE.sel [1, 2, 4, 18] rfl
    refine hK3 _ _ ?_
    refine wp_cond_true (hE.eval rfl) ?_
    refine wp_seq_k (fun K4 hK4 => ?_)
    refine wp_plain [false, true] rfl rfl ?_
    refine s_call hE rfl Tryd.call15 (awake_c _ (hM.get 3 rfl)) rfl ?_
    rintro e w3 ⟨rfl, hN⟩
    refine ⟨_, rfl, trivial, ?_⟩; clear hE a; intro a hE
    replace hM : Mem _ _ w3 [_, _, _, _] := hM.call0 hN trivial; clear hN
    refine s_assign hE rfl rfl ?_; clear hE a; intro a hE
    refine q_nil ?_
    replace hE : Env a 99 [(1, _), (2, _), (4, _), (18, _)] := hE.sel [1, 2, 4, 18] rfl
    refine hK4 _ _ ?_
    refine wp_ret ?_
    refine q_then_r ?_
    refine f_ret1 hE rfl rfl ?_
    exact ⟨rfl, hM.nil⟩
  · replace hE := hE'; clear hE'
    obtain ⟨hp2, hs2⟩ := hlg hb14
    refine g_yes hE rfl rfl ?_
    refine s_fieldAddr hE rfl fo34_2 rfl ?_; clear hE a; intro a hE
    refine g_yes hE rfl rfl ?_
    refine s_loadIdx (j := 2) hE rfl rfl (hM.get 0 rfl) rfl one3 (by intro X h; cases h) rfl ?_; clear hE a; intro a hE
    refine g_yes hE rfl rfl ?_
    refine s_bin hE rfl rfl bin_gtr rfl ?_; clear hE a; intro a hE
    refine s_pickf hE rfl rfl rfl ?_; clear hE a; intro a hE
    refine q_nil ?_
    replace hE : Env a 99 [(1, _), (2, _), (4, _), (18, _)] := hE.sel [1, 2, 4, 18] rfl
    refine hK3 _ _ ?_
    refine hE.split 18 rfl (fun hb18 hE' => ?_) (fun hb18 hE' => ?_)
    · replace hE := hE'; clear hE'
      replace hb18 := of_decide_eq_true hb18
      refine wp_cond_true (hE.eval rfl) ?_
      refine wp_seq_k (fun K4 hK4 => ?_)
      refine wp_plain [false, true] rfl rfl ?_
      refine s_call hE rfl Tryd.call15 (awake_c _ (hM.get 3 rfl)) rfl ?_
      rintro e w3 ⟨rfl, hN⟩
      refine ⟨_, rfl, trivial, ?_⟩; clear hE a; intro a hE
      replace hM : Mem _ _ w3 [_, _, _, _] := hM.call0 hN trivial; clear hN
      refine s_assign hE rfl rfl ?_; clear hE a; intro a hE
      refine q_nil ?_
      replace hE : Env a 99 [(1, _), (2, _), (4, _), (18, _)] := hE.sel [1, 2, 4, 18] rfl
      refine hK4 _ _ ?_
      refine wp_ret ?_
      refine q_then_r ?_
      refine f_ret1 hE rfl rfl ?_
      exact ⟨rfl, hM.nil⟩
    · replace hE := hE'; clear hE'
      replace hb18 := of_decide_eq_false hb18
      obtain ⟨m0, hm0, hm1⟩ := tmod128 y
      have ht1 := Int.tmod_lt_of_pos y (show (0 : Int) < 128 by decide)
      have ht2 := Int.lt_tmod_of_pos y (show (0 : Int) < 128 by decide)
      refine wp_cond_false (hE.eval rfl) ?_
      refine wp_skip ?_
      refine hK2 _ _ ?_
      refine wp_seq_k (fun K4 hK4 => ?_)
      refine wp_drawnM hM (by kernel_rfl) (fun _ => False) [(0, true), (1, true), (2, true), (3, true), (4, true), (5, true), (6, true), (7, true), (8, true), (9, true), (10, true), (11, true)] [] (by kernel_rfl) rfl ?_
      intro w3 hM' hww3; clear hM; have hM := hM'; clear hM'
      refine s_move hE rfl rfl ?_; clear hE a; intro a hE
      refine s_conv hE rfl (cnv_int Tryd.underlying5 Tryd.underlying3 (wrap_i64 (by omega) (by omega))) rfl ?_; clear hE a; intro a hE
      refine s_bin hE rfl rfl (bin_rem_nat (s := 128) (by decide)) rfl ?_; clear hE a; intro a hE
      refine s_bin hE rfl rfl (show Bin _ _ _ _ _ (.int .i64 (((1 + x.toNat % 128) : Nat) : Int)) from bin_add (by rw [wrap_i64 (by omega) (by omega)]; omega)) rfl ?_; clear hE a; intro a hE
      refine s_fieldAddr hE rfl fo34_3 rfl ?_; clear hE a; intro a hE
      refine s_loadIdx (j := 3) hE rfl rfl (hM.get 0 rfl) rfl one3 (by intro X h; cases h; simp) rfl ?_; clear hE a; intro a hE
      refine s_bin hE rfl rfl (bin_rem (by decide) rfl) rfl ?_; clear hE a; intro a hE
      refine s_bin hE rfl rfl (bin_add (wrap_i64 (by omega) (by omega))) rfl ?_; clear hE a; intro a hE
      refine s_bin hE rfl rfl (show Bin _ _ _ _ _ (.int .i64 (m0 : Int)) from bin_rem (by decide) hm0) rfl ?_; clear hE a; intro a hE
      refine s_bin hE rfl rfl (show Bin _ _ _ _ _ (.int .i64 (((1 + m0) : Nat) : Int)) from bin_add (by rw [wrap_i64 (by omega) (by omega)]; omega)) rfl ?_; clear hE a; intro a hE
      refine s_assign hE rfl rfl ?_; clear hE a; intro a hE
      refine s_assign hE rfl rfl ?_; clear hE a; intro a hE
      refine q_nil ?_
      replace hE : Env a 99 [(2, _), (4, _), (5, _), (6, _), (18, _)] := hE.sel [2, 4, 5, 6, 18] rfl
      refine hK4 _ _ ?_
      refine wp_seq_k (fun K5 hK5 => ?_)
      refine wp_plain [true, true, true, true, true, true, true, false, true, true, true, true, true] rfl rfl ?_
      refine s_fieldAddr hE rfl fo34_0 rfl ?_; clear hE a; intro a hE
      refine s_loadIdx (j := 0) hE rfl rfl (hM.get 0 rfl) rfl one22 (by intro X h; cases h) rfl ?_; clear hE a; intro a hE
      refine s_fieldAddr hE rfl fo34_1 rfl ?_; clear hE a; intro a hE
      refine s_loadIdx (j := 1) hE rfl rfl (hM.get 0 rfl) rfl one22 (by intro X h; cases h) rfl ?_; clear hE a; intro a hE
      refine s_fieldAddr hE rfl fo34_2 rfl ?_; clear hE a; intro a hE
      refine s_loadIdx (j := 2) hE rfl rfl (hM.get 0 rfl) rfl one3 (by intro X h; cases h) rfl ?_; clear hE a; intro a hE
      refine s_move hE rfl rfl ?_; clear hE a; intro a hE
      refine s_call hE rfl Tryd.call21 (key_c v u pass salt c cu r (1 + x.toNat % 128) _ (hM.get 3 rfl) (hM.get 1 rfl) (hM.get 2 rfl) (by omega) (by omega) (by omega) (by omega) (by omega) (by omega)) rfl ?_
      rintro e w4 ⟨vka, rfl, hnk, hN⟩
      refine ⟨_, rfl, trivial, ?_⟩; clear hE a; intro a hE
      replace hM : Mem _ _ w4 [_, _, _, _, _] := hM.callN hN (by intro e he x hx; rw [List.mem_singleton.1 he] at hx; exact hnk x hx); clear hN
      clear hnk
      refine s_move hE rfl rfl ?_; clear hE a; intro a hE
      refine s_extract hE rfl rfl rfl ?_; clear hE a; intro a hE
      refine s_extract hE rfl rfl rfl ?_; clear hE a; intro a hE
      refine s_assign hE rfl rfl ?_; clear hE a; intro a hE
      refine s_assign hE rfl rfl ?_; clear hE a; intro a hE
      refine q_nil ?_
      replace hE : Env a 99 [(2, _), (4, _), (5, _), (6, _), (7, _), (8, _), (18, _)] := hE.sel [2, 4, 5, 6, 7, 8, 18] rfl
      refine hK5 _ _ ?_
      refine wp_seq_k (fun K6 hK6 => ?_)
      refine wp_plain [true, true, true, true, true, true, true, false, true, true, true, true, true] rfl rfl ?_
      refine s_fieldAddr hE rfl fo34_0 rfl ?_; clear hE a; intro a hE
      refine s_loadIdx (j := 0) hE rfl rfl (hM.get 1 rfl) rfl one22 (by intro X h; cases h) rfl ?_; clear hE a; intro a hE
      refine s_fieldAddr hE rfl fo34_1 rfl ?_; clear hE a; intro a hE
      refine s_loadIdx (j := 1) hE rfl rfl (hM.get 1 rfl) rfl one22 (by intro X h; cases h) rfl ?_; clear hE a; intro a hE
      refine s_fieldAddr hE rfl fo34_2 rfl ?_; clear hE a; intro a hE
      refine s_loadIdx (j := 2) hE rfl rfl (hM.get 1 rfl) rfl one3 (by intro X h; cases h) rfl ?_; clear hE a; intro a hE
      refine s_move hE rfl rfl ?_; clear hE a; intro a hE
      refine s_call hE rfl Tryd.call21 (key_c v u pass salt c cu r (1 + m0) _ (hM.get 4 rfl) (hM.get 2 rfl) (hM.get 3 rfl) (by omega) (by omega) (by omega) (by omega) (by omega) (by omega)) rfl ?_
      rintro e w5 ⟨vkb, rfl, hnk, hN⟩
      refine ⟨_, rfl, trivial, ?_⟩; clear hE a; intro a hE
      replace hM : Mem _ _ w5 [_, _, _, _, _, _] := hM.callN hN (by intro e he x hx; rw [List.mem_singleton.1 he] at hx; exact hnk x hx); clear hN
      clear hnk
      refine s_move hE rfl rfl ?_; clear hE a; intro a hE
      refine s_extract hE rfl rfl rfl ?_; clear hE a; intro a hE
      refine s_extract hE rfl rfl rfl ?_; clear hE a; intro a hE
      refine s_assign hE rfl rfl ?_; clear hE a; intro a hE
      refine s_assign hE rfl rfl ?_; clear hE a; intro a hE
      refine q_nil ?_
      replace hE : Env a 99 [(2, _), (4, _), (5, _), (6, _), (7, _), (8, _), (9, _), (10, _), (18, _)] := hE.sel [2, 4, 5, 6, 7, 8, 9, 10, 18] rfl
      refine hK6 _ _ ?_
      refine wp_seq_k (fun K7 hK7 => ?_)
      refine wp_seq_k (fun K8 hK8 => ?_)
      refine wp_plain [true, true, true] rfl rfl ?_
      refine s_fieldAddr hE rfl fo34_2 rfl ?_; clear hE a; intro a hE
      refine s_loadIdx (j := 2) hE rfl rfl (hM.get 2 rfl) rfl one3 (by intro X h; cases h) rfl ?_; clear hE a; intro a hE
      refine s_bin hE rfl rfl bin_lss rfl ?_; clear hE a; intro a hE
      refine q_nil ?_
      replace hE : Env a 99 [(2, _), (4, _), (5, _), (6, _), (7, _), (8, _), (9, _), (10, _), (18, _), (54, _)] := hE.sel [2, 4, 5, 6, 7, 8, 9, 10, 18, 54] rfl
      refine hK8 _ _ ?_
      replace hE := hE.cast 54 rfl (show _ = Value.bool false from (congrArg Value.bool (decide_eq_false (by omega))))
      refine wp_cond_false (hE.eval rfl) ?_
      refine wp_skip ?_
      refine hK7 _ _ ?_
      refine wp_seq_k (fun K9 hK9 => ?_)
      refine wp_plain [true, true, true, true] rfl rfl ?_
      refine s_move hE rfl rfl ?_; clear hE a; intro a hE
      refine s_move hE rfl rfl ?_; clear hE a; intro a hE
      refine s_min hE rfl rfl rfl ?_; clear hE a; intro a hE
      replace hE := hE.cast 66 rfl (show _ = Value.int .i64 ((min (1 + x.toNat % 128) (1 + m0) : Nat) : Int) from congrArg _ (by split <;> omega))
      refine s_assign hE rfl rfl ?_; clear hE a; intro a hE
      refine q_nil ?_
      replace hE : Env a 99 [(2, _), (4, _), (5, _), (6, _), (7, _), (8, _), (9, _), (10, _), (11, _), (18, _), (54, _)] := hE.sel [2, 4, 5, 6, 7, 8, 9, 10, 11, 18, 54] rfl
      refine hK9 _ _ ?_
      refine wp_seq_k (fun K10 hK10 => ?_)
      refine wp_drawnM hM (by kernel_rfl) (fun _ => False) [(0, true), (1, true), (2, true), (3, true), (4, true), (5, true), (6, true), (7, true), (8, true), (9, true), (10, true), (11, true), (12, true), (13, true), (14, true), (15, true), (16, true), (17, true), (18, true), (19, true), (20, true), (21, true), (22, true), (23, true), (24, true), (25, true), (26, true), (27, true), (28, true), (29, true), (30, false), (31, true), (32, true)] [(30, [(31, 30), (32, 30)])] (by kernel_rfl) rfl ?_
      intro w6 hM' hww6; clear hM; have hM := hM'; clear hM'
      refine s_move hE rfl rfl ?_; clear hE a; intro a hE
      refine s_bin hE rfl rfl bin_eql rfl ?_; clear hE a; intro a hE
      refine s_move hE rfl rfl ?_; clear hE a; intro a hE
      replace hE := hE.cast 69 rfl (show _ = Value.bool true from (congrArg Value.bool (by first | rfl | decide)))
      refine g_yes hE rfl rfl ?_
      refine s_move hE rfl rfl ?_; clear hE a; intro a hE
      refine g_yes hE rfl rfl ?_
      refine s_bin hE rfl rfl bin_eql rfl ?_; clear hE a; intro a hE
      refine s_pickt hE rfl rfl rfl ?_; clear hE a; intro a hE
      refine s_move hE rfl rfl ?_; clear hE a; intro a hE
      replace hE := hE.cast 73 rfl (show _ = Value.bool true from (congrArg Value.bool (by first | rfl | decide)))
      refine g_yes hE rfl rfl ?_
      refine s_move hE rfl rfl ?_; clear hE a; intro a hE
      refine g_yes hE rfl rfl ?_
      refine s_len hE rfl Tryd.underlying22 (rd_slice (hM.get 1 rfl)) rfl ?_; clear hE a; intro a hE
      refine g_yes hE rfl rfl ?_
      refine s_move hE rfl rfl ?_; clear hE a; intro a hE
      refine g_yes hE rfl rfl ?_
      refine s_bin hE rfl rfl bin_eql rfl ?_; clear hE a; intro a hE
      refine s_pickt hE rfl rfl rfl ?_; clear hE a; intro a hE
      refine s_move hE rfl rfl ?_; clear hE a; intro a hE
      replace hE := hE.cast 79 rfl (show _ = Value.bool true from (congrArg Value.bool (by simp)))
      refine g_yes hE rfl rfl ?_
      refine s_move hE rfl rfl ?_; clear hE a; intro a hE
      refine g_yes hE rfl rfl ?_
      refine s_len hE rfl Tryd.underlying22 (rd_slice (hM.get 0 rfl)) rfl ?_; clear hE a; intro a hE
      refine g_yes hE rfl rfl ?_
      refine s_move hE rfl rfl ?_; clear hE a; intro a hE
      refine g_yes hE rfl rfl ?_
      refine s_bin hE rfl rfl bin_eql rfl ?_; clear hE a; intro a hE
      refine s_pickt hE rfl rfl rfl ?_; clear hE a; intro a hE
      refine s_move hE rfl rfl ?_; clear hE a; intro a hE
      replace hE := hE.cast 85 rfl (show _ = Value.bool true from (congrArg Value.bool (by simp)))
      refine g_yes hE rfl rfl ?_
      refine s_move hE rfl rfl ?_; clear hE a; intro a hE
      refine g_yes hE rfl rfl ?_
      refine s_move hE rfl rfl ?_; clear hE a; intro a hE
      refine g_yes hE rfl rfl ?_
      refine s_slice (l := 0) (h := (min (1 + x.toNat % 128) (1 + m0))) (mx' := (1 + x.toNat % 128)) hE rfl (hM.get 1 rfl) slt22 rfl ⟨_, rfl⟩ rfl (by simp) (by omega) (by rw [keyW_length]; omega) (by omega) (by omega) rfl ?_; clear hE a; intro a v88 hE hr88 hvb88
      replace hr88 := rd_take (by rw [keyW_length]; omega) hr88
      refine g_yes hE rfl rfl ?_
      refine s_toStr hE rfl Tryd.underlying22 Tryd.underlying5 Tryd.underlying9 hr88 (by intro X h; cases h; simp) rfl ?_; clear hE a; intro a hE
      refine g_yes hE rfl rfl ?_
      refine s_move hE rfl rfl ?_; clear hE a; intro a hE
      refine g_yes hE rfl rfl ?_
      refine s_move hE rfl rfl ?_; clear hE a; intro a hE
      refine g_yes hE rfl rfl ?_
      refine s_slice (l := 0) (h := (min (1 + x.toNat % 128) (1 + m0))) (mx' := (1 + m0)) hE rfl (hM.get 0 rfl) slt22 rfl ⟨_, rfl⟩ rfl (by simp) (by omega) (by rw [keyW_length]; omega) (by omega) (by omega) rfl ?_; clear hE a; intro a v92 hE hr92 hvb92
      replace hr92 := rd_take (by rw [keyW_length]; omega) hr92
      refine g_yes hE rfl rfl ?_
      refine s_toStr hE rfl Tryd.underlying22 Tryd.underlying5 Tryd.underlying9 hr92 (by intro X h; cases h; simp) rfl ?_; clear hE a; intro a hE
      refine g_yes hE rfl rfl ?_
      refine s_bin hE rfl rfl bins_str.1 rfl ?_; clear hE a; intro a hE
      refine s_pickt hE rfl rfl rfl ?_; clear hE a; intro a hE
      refine s_move hE rfl rfl ?_; clear hE a; intro a hE
      replace hE := hE.cast 96 rfl (show _ = Value.bool true from (congrArg Value.bool (decide_eq_true (by show (List.take _ _) = (List.take _ _); rw [keyW_take (Nat.min_le_left _ _), keyW_take (Nat.min_le_right _ _)]))))
      refine g_yes hE rfl rfl ?_
      refine s_call hE rfl Tryd.call15 (awake_c _ (hM.get 5 rfl)) rfl ?_
      rintro e w7 ⟨rfl, hN⟩
      refine ⟨_, rfl, hN.sta0 _, ?_⟩; clear hE a; intro a hE
      replace hM : Mem _ _ w7 [_, _, _, _, _, _] := hM.call0 hN trivial; clear hN
      refine s_pickt hE rfl rfl rfl ?_; clear hE a; intro a hE
      refine s_assign hE rfl rfl ?_; clear hE a; intro a hE
      refine q_nil ?_
      replace hE : Env a 99 [(2, _), (4, _), (5, _), (6, _), (8, _), (10, _), (18, _), (54, _)] := hE.sel [2, 4, 5, 6, 8, 10, 18, 54] rfl
      refine hK10 _ _ ?_
      refine wp_ret ?_
      refine f_ret1 hE rfl rfl ?_
      exact ⟨rfl, hM.nil⟩
theorem pbkdfBegins_c (v u : Value) (pass salt : List UInt8) (c cu : Nat) (z y : Int) (x : UInt8) (w : World) (hG : (glb 0).holds w) (hr : (rd v 1 pass.length c (bv pass)).holds w) (hu : (rd u 1 salt.length cu (bv salt)).holds w) : Calls Tryd.prog 5 #[.agg #[v, u, .int .i64 z, .int .i64 y], .int .u8 (x.toNat : Int)] w fun e w' => e = .returned (.bool true) ∧ Mem w [] w' [] := by
  by_cases hz : z < 1
  · exact begins_bad v u pass salt c cu z y x w hG hr hu hz
  · exact begins_ok v u pass salt c cu z y x w hG hr hu z.toNat (by omega) (by omega)
set_option maxRecDepth 100000 in
theorem pbkdfBegins_lifted (os : Os) (started : os.Started) (H : Type) (enc : TypeId × Value → H) :
    ReturnsInHanded {} Tryd.checked os 5 .any (fun w args => (Rows.pbkdfBeginsSpec.pre enc Tryd.prog Tryd.f5 [] false w args ∧ laidMetH Tryd.prog Rows.pbkdfBeginsRow.laid w) ∧ sizedMet enc Tryd.prog Tryd.f5 (OpenSpec.ofChange Rows.pbkdfBeginsSpec) false w args) (Rows.pbkdfBeginsSpec.post enc Tryd.prog Tryd.f5 false true false false) := by
  refine law_liftedL (C := Tryd.checked) (fn := Tryd.f5) (l := Rows.pbkdfBeginsRow.laid) (by kernel_rfl) started (by kernel_rfl) Tryd.func5 rfl (fun ds hl => ?_) rfl Tryd.underlying4 (by kernel_rfl) (of_decide_eq_true (by kernel_rfl)) (by kernel_rfl)
    (ChangeSpec.witness_shaped (enc := enc) (C := Tryd.checked) (os := os) (X := fun w _ => laidMetH Tryd.prog Rows.pbkdfBeginsRow.laid w) false (World.laidAll Tryd.prog os Rows.pbkdfBeginsRow.laid) #[.agg #[.slice none 0 0, .slice none 0 0, .int .i64 0, .int .i64 0], .int .u8 0] 8 (World.laidAll_os _ _ _) (World.shaped_of_ZipB (by kernel_rfl) (by kernel_rfl)) (by kernel_rfl) (by kernel_rfl) (by kernel_rfl) (by rw [MakeChecks.laidMetH_plain _ _ _ (by kernel_rfl)]; exact laidMet_laidAll _ (by kernel_rfl) (by kernel_rfl))) ?_
  · rw [Tryd.params5] at hl
    match ds, hl with
    | [_, _], _ => rfl
  · intro W base args ds ps hval hA hw hL
    have hG := glb_of_laid (P := Tryd.prog) (g := 0) (t := 98) (e := 74) (by kernel_rfl) (by kernel_rfl) Tryd.underlying98 Tryd.underlying74 (by kernel_rfl) (by kernel_rfl) (by kernel_rfl) (show laidMet Tryd.prog (_ :: _) W from hL)
    rw [Tryd.params5] at hA hval hw
    obtain ⟨v0, vs0, d0, ds0, p0, q0, hargs, rfl, rfl, h0, r0⟩ := trodAll_cons hA
    obtain ⟨v1, vs1, d1, ds1, p1, q1, rfl, rfl, rfl, h1, r1⟩ := trodAll_cons r0
    obtain ⟨rfl, rfl, rfl⟩ := trodAll_nil r1
    obtain rfl : args = #[v0, v1] := by cases args; simp_all
    obtain ⟨cs0, rfl, hcs0⟩ := okWide_struct Tryd.underlying34 (hval 0 34 v0 rfl rfl)
    obtain ⟨hl0, hp0⟩ := trod_of (dec_structL (t := 34) (s := 4) [(22, 0, 1, _), (22, 1, 1, _), (3, 2, 1, _), (3, 3, 1, _)] Tryd.underlying34 (by kernel_rfl) (by kernel_rfl) (by
      intro p hp; simp only [List.mem_cons, List.not_mem_nil, or_false] at hp
      rcases hp with rfl | rfl | rfl | rfl
      · exact dec_bytes Tryd.underlying22 Tryd.underlying5 (by kernel_rfl) (by kernel_rfl)
      · exact dec_bytes Tryd.underlying22 Tryd.underlying5 (by kernel_rfl) (by kernel_rfl)
      · exact dec_int Tryd.underlying3
      · exact dec_int Tryd.underlying3)) h0 (fun m hm => hw m (by simp only [DataW.weightsEach, List.mem_append]; exact .inl hm))
    obtain ⟨qa, qb, qc, qd, hc0⟩ := len4v hl0
    rw [hc0] at hp0
    obtain ⟨va, ba, ca, hva, hra, hba⟩ := hp0 _ (.head _)
    obtain ⟨vb, bb, cb, hvb, hrb, hbb⟩ := hp0 _ (.tail _ (.head _))
    obtain ⟨z, hz, hz0, hz1⟩ := hp0 _ (.tail _ (.tail _ (.head _)))
    obtain ⟨y, hy, hy0, hy1⟩ := hp0 _ (.tail _ (.tail _ (.tail _ (.head _))))
    simp only [List.drop_zero, List.drop_succ_cons, List.take_succ_cons, List.take_zero, List.cons.injEq, and_true] at hva hvb hz hy
    subst hva hvb hz hy
    have ecs0 := agg_of hc0
    subst ecs0
    obtain ⟨z1, rfl, hz1, hy1⟩ := arg_int Tryd.underlying5 (hval 1 5 v1 rfl rfl) h1 (fun m hm => hw m (by simp only [DataW.weightsEach, List.mem_append]; exact .inr (.inl hm)))
    obtain ⟨x1, rfl⟩ := u8_of hz1 hy1
    exact pbkdfBegins_c qa qb ba bb ca cb z y x1 W hG hra hrb

/-- The row's statement. -/
theorem pbkdfBegins_row : Rows.PbkdfBeginsSaid :=
  OpenClaim.holds_of_wide 5 Tryd.f5 rfl rfl rfl rfl rfl rfl rfl ⟨rfl, rfl, rfl, rfl, rfl⟩ rfl rfl rfl rfl rfl (by kernel_rfl) Tryd.func5 (by kernel_rfl)
    (of_decide_eq_true (by kernel_rfl)) (by unfold Func.isWrapper; first | (rw [if_pos (by decide +kernel)]; kernel_rfl) | (rw [if_neg (by decide +kernel)]; exact ⟨rfl, rfl⟩))
    (fun os started H enc _ => pbkdfBegins_lifted os started H enc)

/-- The statement: the row, its listed variable tied to the program's text. -/
theorem pbkdfBegins_holds : Rows.PbkdfBeginsCardSaid :=
  Claim7.holds_tied_plain_at .later [] [.data] true (true, "6fc7720c1af2613af465590a04043e064699da455281c70e9b23793a063f4041") false
    pbkdfBegins_row (fun _ h => by cases h) (by kernel_rfl) (fun _ h => by cases h) pbkdfBegins_row_tie rfl ⟨rfl, rfl⟩ (by kernel_rfl) rfl
    (fun f fn hf hfn => by
      obtain rfl : f = 5 := Option.some.inj ((show Tryd.prog.funcNamed "casemate/casematelaw05.PbkdfBegins" = some 5 by kernel_rfl).symm.trans hf) |>.symm
      obtain rfl : fn = Tryd.f5 := (Option.some.inj (Tryd.func5.symm.trans hfn)).symm
      exact ⟨by kernel_rfl, fun j t ht => by
        rw [Tryd.params5] at ht
        have h : t ∈ [34, 5] := by
          rcases j with _ | _ | j
          · simp at ht; simp [ht]
          · simp at ht; simp [ht]
          · simp at ht
        simp only [List.mem_cons, List.not_mem_nil, or_false] at h
        rcases h with rfl | rfl
        · exact (show Tryd.prog.wantsStandIn 34 = false by kernel_rfl)
        · exact (show Tryd.prog.wantsStandIn 5 = false by kernel_rfl)⟩)
    (by kernel_rfl)
#print axioms pbkdfBegins_holds
end Go.Proofs.YthagednepehliaaDoor
