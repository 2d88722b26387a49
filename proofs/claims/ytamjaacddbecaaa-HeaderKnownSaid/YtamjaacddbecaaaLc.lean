/- Walks of functions of the given program that the claim reaches. -/
import Derived.Test.YtamjaacddbecaaaLb
set_option linter.unusedSimpArgs false
set_option linter.unusedVariables false
namespace Go.Proofs.Ytamjaacddbecaaa
open Go Go.Kx
theorem fo29_0 : fieldOff Try.prog 29 0 = some 0 := by kernel_rfl
theorem arr26 : arrT Try.prog 26 = some (32, 1) := by kernel_rfl
theorem fo29_1 : fieldOff Try.prog 29 1 = some 32 := by kernel_rfl
theorem arr27 : arrT Try.prog 27 = some (32, 1) := by kernel_rfl
theorem fo23_0 : fieldOff Try.prog 23 0 = some 0 := by kernel_rfl
theorem one3 : OneT Try.prog 3 := OneT.of Try.underlying3 rfl (by kernel_rfl)
theorem fo23_1 : fieldOff Try.prog 23 1 = some 1 := by kernel_rfl
theorem fo31_1 : fieldOff Try.prog 31 1 = some 1 := by kernel_rfl
theorem one24 : OneT Try.prog 24 := OneT.of Try.underlying24 rfl (by kernel_rfl)
theorem fo31_0 : fieldOff Try.prog 31 0 = some 0 := by kernel_rfl
theorem row31 : RowT Try.prog 31 66 := RowT.of Try.underlying31 rfl (by kernel_rfl)
theorem zero31 : Zero Try.prog 31 [[.bool false], [.int .u64 0], (bv (List.replicate 32 0)) ++ (bv (List.replicate 32 0))] := ⟨.agg ([[.bool false], [.int .u64 0], (bv (List.replicate 32 0)) ++ (bv (List.replicate 32 0))] : List (List Value)).flatten.toArray, by kernel_rfl, by kernel_rfl⟩
theorem fpl31 : fldPl Try.prog 31 = some (plc 0 [1, 1, 64]) := by kernel_rfl
theorem kl31 : ∀ {k : Nat} {x0 : Bool} {x1 : Int} {x2 : List UInt8} {x3 : List UInt8} (hx1 : (Lit.int .u64 x1).wf = true) (hx2 : x2.length = 32) (hx3 : x3.length = 32), KL Try.prog (k + 4) 31 ([[.bool x0], [.int .u64 x1], [bv x2, bv x3].flatten].flatten) := fun {k} {x0} {x1} {x2} {x3} hx1 hx2 hx3 => KL.struct [1, 1, 64] Try.underlying31 (by kernel_rfl) (by kernel_rfl) (by kernel_rfl) (by simp [*]) [4, 24, 29] (by kernel_rfl) ⟨KL.bool Try.underlying4, KL.int Try.underlying24 hx1, KL.struct [32, 32] Try.underlying29 (by kernel_rfl) (by kernel_rfl) (by kernel_rfl) (by simp [*]) [26, 27] (by kernel_rfl) ⟨KL.arr8 Try.underlying26 Try.underlying5 (by kernel_rfl) (by kernel_rfl) hx2, KL.arr8 Try.underlying27 Try.underlying5 (by kernel_rfl) (by kernel_rfl) hx3, trivial⟩, trivial⟩
theorem klL31 : ∀ {k : Nat} {x0 : Bool} {x1 : Int} {x2 : List UInt8} {x3 : List UInt8} (hx1 : (Lit.int .u64 x1).wf = true) (hx2 : x2.length = 32) (hx3 : x3.length = 32), KL Try.prog (k + 4) 31 ([[.bool x0], [.int .u64 x1], bv x2, bv x3] : List (List Value)).flatten := fun {k} {x0} {x1} {x2} {x3} hx1 hx2 hx3 => by
  have h := kl31 (k := k) (x0 := x0) (x1 := x1) (x2 := x2) (x3 := x3) hx1 hx2 hx3
  simpa only [List.flatten_cons, List.flatten_nil, List.append_nil, List.append_assoc] using h
theorem eqk31 : ∀ {cs ds : List Value} {b : Bool} {k k' : Nat}, KL Try.prog k 31 cs → KL Try.prog k' 31 ds → (b = true ↔ cs = ds) → Bin Try.prog .eql 31 (.agg cs.toArray) (.agg ds.toArray) (.bool b) ∧ Bin Try.prog .neq 31 (.agg cs.toArray) (.agg ds.toArray) (.bool (!b)) := fun h1 h2 hb => bins_key (m := 4) (by kernel_rfl) rfl (by kernel_rfl) (by rw [Try.underlying31]) h1 h2 hb
theorem fo36_0 : fieldOff Try.prog 36 0 = some 0 := by kernel_rfl
theorem row36 : RowT Try.prog 36 82 := RowT.of Try.underlying36 rfl (by kernel_rfl)
theorem zero36 : Zero Try.prog 36 [[.bool false], [.int .i64 0], bv (List.replicate 16 0), (bv (List.replicate 32 0)) ++ (bv (List.replicate 32 0))] := ⟨.agg ([[.bool false], [.int .i64 0], bv (List.replicate 16 0), (bv (List.replicate 32 0)) ++ (bv (List.replicate 32 0))] : List (List Value)).flatten.toArray, by kernel_rfl, by kernel_rfl⟩
theorem fpl36 : fldPl Try.prog 36 = some (plc 0 [1, 1, 16, 64]) := by kernel_rfl
theorem kl36 : ∀ {k : Nat} {x0 : Bool} {x1 : Int} {x2 : List UInt8} {x3 : List UInt8} {x4 : List UInt8} (hx1 : (Lit.int .i64 x1).wf = true) (hx2 : x2.length = 16) (hx3 : x3.length = 32) (hx4 : x4.length = 32), KL Try.prog (k + 4) 36 ([[.bool x0], [.int .i64 x1], bv x2, [bv x3, bv x4].flatten].flatten) := fun {k} {x0} {x1} {x2} {x3} {x4} hx1 hx2 hx3 hx4 => KL.struct [1, 1, 16, 64] Try.underlying36 (by kernel_rfl) (by kernel_rfl) (by kernel_rfl) (by simp [*]) [4, 3, 34, 29] (by kernel_rfl) ⟨KL.bool Try.underlying4, KL.int Try.underlying3 hx1, KL.arr8 Try.underlying34 Try.underlying5 (by kernel_rfl) (by kernel_rfl) hx2, KL.struct [32, 32] Try.underlying29 (by kernel_rfl) (by kernel_rfl) (by kernel_rfl) (by simp [*]) [26, 27] (by kernel_rfl) ⟨KL.arr8 Try.underlying26 Try.underlying5 (by kernel_rfl) (by kernel_rfl) hx3, KL.arr8 Try.underlying27 Try.underlying5 (by kernel_rfl) (by kernel_rfl) hx4, trivial⟩, trivial⟩
theorem klL36 : ∀ {k : Nat} {x0 : Bool} {x1 : Int} {x2 : List UInt8} {x3 : List UInt8} {x4 : List UInt8} (hx1 : (Lit.int .i64 x1).wf = true) (hx2 : x2.length = 16) (hx3 : x3.length = 32) (hx4 : x4.length = 32), KL Try.prog (k + 4) 36 ([[.bool x0], [.int .i64 x1], bv x2, bv x3, bv x4] : List (List Value)).flatten := fun {k} {x0} {x1} {x2} {x3} {x4} hx1 hx2 hx3 hx4 => by
  have h := kl36 (k := k) (x0 := x0) (x1 := x1) (x2 := x2) (x3 := x3) (x4 := x4) hx1 hx2 hx3 hx4
  simpa only [List.flatten_cons, List.flatten_nil, List.append_nil, List.append_assoc] using h
theorem eqk36 : ∀ {cs ds : List Value} {b : Bool} {k k' : Nat}, KL Try.prog k 36 cs → KL Try.prog k' 36 ds → (b = true ↔ cs = ds) → Bin Try.prog .eql 36 (.agg cs.toArray) (.agg ds.toArray) (.bool b) ∧ Bin Try.prog .neq 36 (.agg cs.toArray) (.agg ds.toArray) (.bool (!b)) := fun h1 h2 hb => bins_key (m := 4) (by kernel_rfl) rfl (by kernel_rfl) (by rw [Try.underlying36]) h1 h2 hb
theorem fo36_1 : fieldOff Try.prog 36 1 = some 1 := by kernel_rfl
theorem fo39_1 : fieldOff Try.prog 39 1 = some 2 := by kernel_rfl
theorem row32 : RowT Try.prog 32 132 := RowT.of Try.underlying32 rfl (by kernel_rfl)
theorem zeroL31 : Zero Try.prog 31 [[.bool false], [.int .u64 0], bv (List.replicate 32 0), bv (List.replicate 32 0)] := ⟨.agg ([[.bool false], [.int .u64 0], bv (List.replicate 32 0), bv (List.replicate 32 0)] : List (List Value)).flatten.toArray, by kernel_rfl, by kernel_rfl⟩
theorem sz31 : (Try.prog.info? 31).map (·.size) = some 66 := by kernel_rfl
theorem fo39_2 : fieldOff Try.prog 39 2 = some 134 := by kernel_rfl
theorem row37 : RowT Try.prog 37 328 := RowT.of Try.underlying37 rfl (by kernel_rfl)
theorem zeroL36 : Zero Try.prog 36 [[.bool false], [.int .i64 0], bv (List.replicate 16 0), bv (List.replicate 32 0), bv (List.replicate 32 0)] := ⟨.agg ([[.bool false], [.int .i64 0], bv (List.replicate 16 0), bv (List.replicate 32 0), bv (List.replicate 32 0)] : List (List Value)).flatten.toArray, by kernel_rfl, by kernel_rfl⟩
theorem sz36 : (Try.prog.info? 36).map (·.size) = some 82 := by kernel_rfl
theorem fo39_0 : fieldOff Try.prog 39 0 = some 0 := by kernel_rfl
theorem row23 : RowT Try.prog 23 2 := RowT.of Try.underlying23 rfl (by kernel_rfl)
theorem row39 : RowT Try.prog 39 462 := RowT.of Try.underlying39 rfl (by kernel_rfl)
theorem fo31_2 : fieldOff Try.prog 31 2 = some 2 := by kernel_rfl
theorem row29 : RowT Try.prog 29 64 := RowT.of Try.underlying29 rfl (by kernel_rfl)
theorem fo36_2 : fieldOff Try.prog 36 2 = some 2 := by kernel_rfl
theorem arr34 : arrT Try.prog 34 = some (16, 1) := by kernel_rfl
theorem fo36_3 : fieldOff Try.prog 36 3 = some 18 := by kernel_rfl
theorem sl40 : SlT Try.prog 40 59 64 64 := ⟨Try.underlying40, by kernel_rfl, by kernel_rfl, .agg ([bv (List.replicate 64 0)] : List (List Value)).flatten.toArray, by kernel_rfl, rfl⟩
theorem slt40 : slT Try.prog 40 = some 64 := by kernel_rfl
theorem arr59 : arrT Try.prog 59 = some (64, 1) := by kernel_rfl
theorem row59 : RowT Try.prog 59 64 := RowT.of Try.underlying59 rfl (by kernel_rfl)
theorem zero59 : Zero Try.prog 59 [bv (List.replicate 64 0)] := ⟨.agg ([bv (List.replicate 64 0)] : List (List Value)).flatten.toArray, by kernel_rfl, by kernel_rfl⟩
theorem sz59 : (Try.prog.info? 59).map (·.size) = some 64 := by kernel_rfl
theorem boxput_c (v : Value) (bs : List UInt8) (c : Nat) (x : List UInt8) (y : List UInt8) (w : World) (hr_bs : (rd v 1 bs.length c (bv bs)).holds w) (hl_x : x.length = 32) (hl_y : y.length = 32) (hb : bs.length + 64 ≤ 140737488355328) : Calls Try.prog 32 #[v, .agg ([bv x, bv y] : List (List Value)).flatten.toArray] w fun e w' => ∃ v', e = .returned (v') ∧ Mem w [] w' [own v' 1 ((bs ++ x) ++ y).length (bv ((bs ++ x) ++ y))] := by
  have hM : Mem w [] w [rd v 1 bs.length c (bv bs)] := Mem.startR w (fun g hg => by
    simp only [List.mem_cons, List.not_mem_nil, or_false] at hg
    rcases hg with rfl
    · exact ⟨hr_bs, rfl⟩)
  refine f_enter 13 Try.func32 rfl rfl rfl ?_
  intro a hE
  replace hE : Env a 13 [(0, _), (1, _)] := hE
  refine wp_seq_k (fun K1 hK1 => ?_)
  refine wp_plain [false, true] rfl rfl ?_
  refine s_box (ss := [bv x, bv y]) [32, 32] hE hM rfl rfl (by simp [*]) rfl ?_; clear hE a; intro a b3 w1 hE hM'
  clear hM; have hM := hM'; clear hM'
  refine s_assign hE rfl rfl ?_; clear hE a; intro a hE
  refine q_nil ?_
  replace hE : Env a 13 [(0, _), (3, _), (4, _)] := hE.sel [0, 3, 4] rfl
  refine hK1 _ _ ?_
  refine wp_seq_k (fun K2 hK2 => ?_)
  refine wp_treeM hM (by kernel_rfl) (fun _ => True) (fun _ => True) (.re [(0, true), (2, true), (3, true), (5, true), (6, true), (1, false), (4, false), (7, false), (8, true)] (.fl 5 (.fl 0 (.or 1 (.re [(4, false), (7, false), (8, true)] (.fl 0 (.fl 0 (.weak (.or 4 (.cut (.re [(7, false), (8, true)] (.fl 0 (.fl 0 (.weak (.or 7 (.cut (.re [(8, true)] (.weak (.leaf 1)))) (.stop))))))) (.stop)))))) (.stop))))) [(0, true), (2, true), (3, true), (5, true), (6, true), (1, false), (4, false), (7, false), (8, true)] [(1, [(4, 1), (7, 4), (8, 1)]), (2, [(3, 2), (4, 3), (7, 4), (8, 2)]), (3, [(4, 3), (7, 4), (8, 3)]), (4, [(7, 4), (8, 4)]), (5, [(6, 5), (7, 6), (8, 5)]), (6, [(7, 6), (8, 6)]), (7, [(8, 7)])] (by kernel_rfl) ?_
  intro w2 hM' hww2; clear hM; have hM := hM'; clear hM'
  refine o_re ?_
  refine o_fl rfl ?_
  refine s_move hE rfl rfl ?_; clear hE a; intro a hE
  refine s_fieldAddr hE rfl fo29_0 rfl ?_; clear hE a; intro a hE
  refine s_sliceArr (l := 0) (h := 32) (mx' := 32) hE rfl arr26 rfl rfl rfl (by simp) (by omega) (by omega) (by omega) rfl ?_; clear hE a; intro a hE
  replace hE := hE.cast 8 rfl (show _ = Value.slice (some ⟨b3, 0, none⟩) 32 32 from rfl)
  refine s_fieldAddr hE rfl fo29_1 rfl ?_; clear hE a; intro a hE
  refine s_sliceArr (l := 0) (h := 32) (mx' := 32) hE rfl arr27 rfl rfl rfl (by simp) (by omega) (by omega) (by omega) rfl ?_; clear hE a; intro a hE
  replace hE := hE.cast 11 rfl (show _ = Value.slice (some ⟨b3, 32, none⟩) 32 32 from rfl)
  refine q_nil (q_nx ?_)
  refine o_fl rfl ?_
  refine q_nil (q_nx ?_)
  refine o_or rfl ?_ ?_
  · refine s_call hE rfl Try.call44 (clone_c bs _ _ _ (hM.get 1 rfl) (by first | omega | (simp; omega))) rfl ?_
    rintro e w3 ⟨v6, rfl, hN⟩
    refine ⟨_, rfl, hN.sta0 _, ?_⟩; clear hE a; intro a hE
    replace hM : Mem _ _ w3 [_, _, _] := hM.call0 hN ⟨rfl, trivial⟩; clear hN
    refine q_nil (q_nx ?_)
    refine o_re ?_
    refine o_fl rfl ?_
    refine q_nil (q_nx ?_)
    refine o_fl rfl ?_
    refine q_nil (q_nx ?_)
    refine o_weak (fun b => b ∈ valBlocks v6) (fun _ _ => trivial) ?_
    refine o_or rfl ?_ ?_
    · refine s_append hE rfl rfl hM sl55 (Src.rd Try.underlying55 (rd_seg8 (N := 32) (hM.get 1 rfl) rfl hl_x) (bv_one _)) (len47 (by have hl_y : x.length = 32 := hl_x; first | omega | (simp; done) | (simp; omega))) (by have hl_y : x.length = 32 := hl_x; first | omega | (simp; done) | (simp; omega)) (by intro X h; cases h; exact fun _ hb => hb) rfl ?_; clear hE a; intro a v9 w4 hE hM'; clear hM; have hM := hM'; clear hM'
      replace hM := Mem.ownApp (p := bs) (q := x) hM (by first | rfl | (simp; done))
      refine q_nil (q_nx ?_)
      refine o_cut (fun _ => True) ?_
      refine o_re ?_
      refine o_fl rfl ?_
      refine q_nil (q_nx ?_)
      refine o_fl rfl ?_
      refine q_nil (q_nx ?_)
      refine o_weak (fun b => b ∈ valBlocks v9) (fun _ _ => trivial) ?_
      refine o_or rfl ?_ ?_
      · refine s_append hE rfl rfl hM sl55 (Src.rd Try.underlying55 (rd_seg8 (N := 32) (hM.get 1 rfl) rfl hl_y) (bv_one _)) (len47 (by have hl_x : (bs ++ x).length = bs.length + 32 := (by have hl_q : x.length = 32 := hl_x; rw [List.length_append]; omega); have hl_y : y.length = 32 := hl_y; first | omega | (simp; done) | (simp; omega))) (by have hl_x : (bs ++ x).length = bs.length + 32 := (by have hl_q : x.length = 32 := hl_x; rw [List.length_append]; omega); have hl_y : y.length = 32 := hl_y; first | omega | (simp; done) | (simp; omega)) (by intro X h; cases h; exact fun _ hb => hb) rfl ?_; clear hE a; intro a v12 w5 hE hM'; clear hM; have hM := hM'; clear hM'
        replace hM := Mem.ownApp (p := bs ++ x) (q := y) hM (by first | rfl | (simp; done))
        refine q_nil (q_nx ?_)
        refine o_cut (fun _ => True) ?_
        refine o_re ?_
        refine o_weak (fun _ => False) (fun _ _ => trivial) ?_
        refine o_leaf rfl rfl ?_
        refine s_assign hE rfl rfl ?_; clear hE a; intro a hE
        refine q_nil (q_ph (q_nil ?_))
        replace hE : Env a 13 [(4, _)] := hE.sel [4] rfl
        refine hK2 _ _ ?_
        refine wp_ret ?_
        refine f_ret1 hE rfl rfl ?_
        exact ⟨_, (by first | rfl | (simp; done)), hM.pick [0] rfl⟩
      trivial
    trivial
  trivial
theorem geocheck_c (gm : Int) (gr : Int) (w : World)  : Calls Try.prog 39 #[.agg ([[.int .i64 gm], [.int .i64 gr]] : List (List Value)).flatten.toArray] w fun e w' => e = .returned (.int .i64 ((if geoB gm gr then 0 else 2 : Nat) : Int)) ∧ Mem w [] w' [] := by
  have hM := Mem.start0 w
  refine f_enter 21 Try.func39 rfl rfl rfl ?_
  intro a hE
  replace hE : Env a 21 [(0, _)] := hE
  refine wp_seq_k (fun K1 hK1 => ?_)
  refine wp_plain [false, true] rfl rfl ?_
  refine s_box (ss := [[.int .i64 gm], [.int .i64 gr]]) [1, 1] hE hM rfl rfl (by simp [*]) rfl ?_; clear hE a; intro a b1 w1 hE hM'
  clear hM; have hM := hM'; clear hM'
  refine s_assign hE rfl rfl ?_; clear hE a; intro a hE
  refine q_nil ?_
  replace hE : Env a 21 [(1, _), (2, _)] := hE.sel [1, 2] rfl
  refine hK1 _ _ ?_
  refine wp_seq_k (fun K2 hK2 => ?_)
  refine wp_seq_k (fun K3 hK3 => ?_)
  refine wp_plain [true, true, true, true, true, true, true, true, true, true, true, true, true, true, true, true, true, true] rfl rfl ?_
  refine s_fieldAddr hE rfl fo23_0 rfl ?_; clear hE a; intro a hE
  refine s_load1 hE rfl (hM.get 0 rfl) rfl one3 (by intro X h; cases h) rfl ?_; clear hE a; intro a hE
  refine s_bin hE rfl rfl bin_lss rfl ?_; clear hE a; intro a hE
  refine s_move hE rfl rfl ?_; clear hE a; intro a hE
  refine hE.split 6 rfl (fun hb6 hE' => ?_) (fun hb6 hE' => ?_)
  · replace hE := hE'; clear hE'
    replace hb6 := of_decide_eq_true hb6
    refine g_no (b := true) hE rfl rfl rfl ?_; clear hE a; intro a hE
    refine g_no (b := true) hE rfl rfl rfl ?_; clear hE a; intro a hE
    refine g_no (b := true) hE rfl rfl rfl ?_; clear hE a; intro a hE
    refine s_pickt hE rfl rfl rfl ?_; clear hE a; intro a hE
    refine s_move hE rfl rfl ?_; clear hE a; intro a hE
    refine g_no (b := true) hE rfl rfl rfl ?_; clear hE a; intro a hE
    refine g_no (b := true) hE rfl rfl rfl ?_; clear hE a; intro a hE
    refine g_no (b := true) hE rfl rfl rfl ?_; clear hE a; intro a hE
    refine s_pickt hE rfl rfl rfl ?_; clear hE a; intro a hE
    refine s_move hE rfl rfl ?_; clear hE a; intro a hE
    refine g_no (b := true) hE rfl rfl rfl ?_; clear hE a; intro a hE
    refine g_no (b := true) hE rfl rfl rfl ?_; clear hE a; intro a hE
    refine g_no (b := true) hE rfl rfl rfl ?_; clear hE a; intro a hE
    refine s_pickt hE rfl rfl rfl ?_; clear hE a; intro a hE
    refine q_nil ?_
    replace hE : Env a 21 [(2, _), (20, _)] := hE.sel [2, 20] rfl
    refine hK3 _ _ ?_
    refine wp_cond_true (hE.eval rfl) ?_
    refine wp_seq_k (fun K4 hK4 => ?_)
    refine wp_plain [true] rfl rfl ?_
    refine s_assign hE rfl rfl ?_; clear hE a; intro a hE
    refine q_nil ?_
    refine hK4 _ _ ?_
    refine wp_ret ?_
    refine q_then_r ?_
    refine f_ret1 hE rfl rfl ?_
    exact ⟨(congrArg (fun n : Nat => Ending.returned (Value.int .i64 (n : Int))) (by simp [geoB]; omega)), hM.pick [] rfl⟩
  · replace hE := hE'; clear hE'
    replace hb6 := of_decide_eq_false hb6
    refine g_yes hE rfl rfl ?_
    refine s_fieldAddr hE rfl fo23_0 rfl ?_; clear hE a; intro a hE
    refine g_yes hE rfl rfl ?_
    refine s_load1 hE rfl (hM.get 0 rfl) rfl one3 (by intro X h; cases h) rfl ?_; clear hE a; intro a hE
    refine g_yes hE rfl rfl ?_
    refine s_bin hE rfl rfl bin_gtr rfl ?_; clear hE a; intro a hE
    refine s_pickf hE rfl rfl rfl ?_; clear hE a; intro a hE
    refine s_move hE rfl rfl ?_; clear hE a; intro a hE
    refine hE.split 11 rfl (fun hb11 hE' => ?_) (fun hb11 hE' => ?_)
    · replace hE := hE'; clear hE'
      replace hb11 := of_decide_eq_true hb11
      refine g_no (b := true) hE rfl rfl rfl ?_; clear hE a; intro a hE
      refine g_no (b := true) hE rfl rfl rfl ?_; clear hE a; intro a hE
      refine g_no (b := true) hE rfl rfl rfl ?_; clear hE a; intro a hE
      refine s_pickt hE rfl rfl rfl ?_; clear hE a; intro a hE
      refine s_move hE rfl rfl ?_; clear hE a; intro a hE
      refine g_no (b := true) hE rfl rfl rfl ?_; clear hE a; intro a hE
      refine g_no (b := true) hE rfl rfl rfl ?_; clear hE a; intro a hE
      refine g_no (b := true) hE rfl rfl rfl ?_; clear hE a; intro a hE
      refine s_pickt hE rfl rfl rfl ?_; clear hE a; intro a hE
      refine q_nil ?_
      replace hE : Env a 21 [(2, _), (20, _)] := hE.sel [2, 20] rfl
      refine hK3 _ _ ?_
      refine wp_cond_true (hE.eval rfl) ?_
      refine wp_seq_k (fun K4 hK4 => ?_)
      refine wp_plain [true] rfl rfl ?_
      refine s_assign hE rfl rfl ?_; clear hE a; intro a hE
      refine q_nil ?_
      refine hK4 _ _ ?_
      refine wp_ret ?_
      refine q_then_r ?_
      refine f_ret1 hE rfl rfl ?_
      exact ⟨(congrArg (fun n : Nat => Ending.returned (Value.int .i64 (n : Int))) (by simp [geoB]; omega)), hM.pick [] rfl⟩
    · replace hE := hE'; clear hE'
      replace hb11 := of_decide_eq_false hb11
      refine g_yes hE rfl rfl ?_
      refine s_fieldAddr hE rfl fo23_1 rfl ?_; clear hE a; intro a hE
      refine g_yes hE rfl rfl ?_
      refine s_load1 hE rfl (hM.get 0 rfl) rfl one3 (by intro X h; cases h) rfl ?_; clear hE a; intro a hE
      refine g_yes hE rfl rfl ?_
      refine s_bin hE rfl rfl bin_lss rfl ?_; clear hE a; intro a hE
      refine s_pickf hE rfl rfl rfl ?_; clear hE a; intro a hE
      refine s_move hE rfl rfl ?_; clear hE a; intro a hE
      refine hE.split 16 rfl (fun hb16 hE' => ?_) (fun hb16 hE' => ?_)
      · replace hE := hE'; clear hE'
        replace hb16 := of_decide_eq_true hb16
        refine g_no (b := true) hE rfl rfl rfl ?_; clear hE a; intro a hE
        refine g_no (b := true) hE rfl rfl rfl ?_; clear hE a; intro a hE
        refine g_no (b := true) hE rfl rfl rfl ?_; clear hE a; intro a hE
        refine s_pickt hE rfl rfl rfl ?_; clear hE a; intro a hE
        refine q_nil ?_
        replace hE : Env a 21 [(2, _), (20, _)] := hE.sel [2, 20] rfl
        refine hK3 _ _ ?_
        refine wp_cond_true (hE.eval rfl) ?_
        refine wp_seq_k (fun K4 hK4 => ?_)
        refine wp_plain [true] rfl rfl ?_
        refine s_assign hE rfl rfl ?_; clear hE a; intro a hE
        refine q_nil ?_
        refine hK4 _ _ ?_
        refine wp_ret ?_
        refine q_then_r ?_
        refine f_ret1 hE rfl rfl ?_
        exact ⟨(congrArg (fun n : Nat => Ending.returned (Value.int .i64 (n : Int))) (by simp [geoB]; omega)), hM.pick [] rfl⟩
      · replace hE := hE'; clear hE'
        replace hb16 := of_decide_eq_false hb16
        refine g_yes hE rfl rfl ?_
        refine s_fieldAddr hE rfl fo23_1 rfl ?_; clear hE a; intro a hE
        refine g_yes hE rfl rfl ?_
        refine s_load1 hE rfl (hM.get 0 rfl) rfl one3 (by intro X h; cases h) rfl ?_; clear hE a; intro a hE
        refine g_yes hE rfl rfl ?_
        refine s_bin hE rfl rfl bin_gtr rfl ?_; clear hE a; intro a hE
        refine s_pickf hE rfl rfl rfl ?_; clear hE a; intro a hE
        refine q_nil ?_
        replace hE : Env a 21 [(2, _), (20, _)] := hE.sel [2, 20] rfl
        refine hK3 _ _ ?_
        refine hE.split 20 rfl (fun hb20 hE' => ?_) (fun hb20 hE' => ?_)
        · replace hE := hE'; clear hE'
          replace hb20 := of_decide_eq_true hb20
          refine wp_cond_true (hE.eval rfl) ?_
          refine wp_seq_k (fun K4 hK4 => ?_)
          refine wp_plain [true] rfl rfl ?_
          refine s_assign hE rfl rfl ?_; clear hE a; intro a hE
          refine q_nil ?_
          refine hK4 _ _ ?_
          refine wp_ret ?_
          refine q_then_r ?_
          refine f_ret1 hE rfl rfl ?_
          exact ⟨(congrArg (fun n : Nat => Ending.returned (Value.int .i64 (n : Int))) (by simp [geoB]; omega)), hM.pick [] rfl⟩
        · replace hE := hE'; clear hE'
          replace hb20 := of_decide_eq_false hb20
          refine wp_cond_false (hE.eval rfl) ?_
          refine wp_skip ?_
          refine hK2 _ _ ?_
          refine wp_seq_k (fun K4 hK4 => ?_)
          refine wp_plain [true] rfl rfl ?_
          refine s_assign hE rfl rfl ?_; clear hE a; intro a hE
          refine q_nil ?_
          refine hK4 _ _ ?_
          refine wp_ret ?_
          refine f_ret1 hE rfl rfl ?_
          exact ⟨(congrArg (fun n : Nat => Ending.returned (Value.int .i64 (n : Int))) (by simp [geoB]; omega)), hM.pick [] rfl⟩
theorem volume_c (vu : Bool) (vn : Nat) (vd : List UInt8) (vt : List UInt8) (w : World) (hl_vd : vd.length = 32) (hl_vt : vt.length = 32) : Calls Try.prog 37 #[.agg ([[.bool vu], [.int .u64 ((vn : Nat) : Int)], bv vd, bv vt] : List (List Value)).flatten.toArray] w fun e w' => e = .returned (.bool (volB (vu, vn, vd, vt))) ∧ Mem w [] w' [] := by
  have hM := Mem.start0 w
  refine f_enter 15 Try.func37 rfl rfl rfl ?_
  intro a hE
  replace hE : Env a 15 [(0, _)] := hE
  refine wp_seq_k (fun K1 hK1 => ?_)
  refine wp_plain [false, true] rfl rfl ?_
  have hbl1_2 : vd.length = 32 := hl_vd
  have hbl1_3 : vt.length = 32 := hl_vt
  refine s_box (ss := [[.bool vu], [.int .u64 ((vn : Nat) : Int)], bv vd, bv vt]) [1, 1, 32, 32] hE hM rfl rfl (by simp only [List.map_cons, List.map_nil, bv_length, List.length_cons, List.length_nil, List.length_replicate, hbl1_2, hbl1_3]) rfl ?_; clear hE a; intro a b1 w1 hE hM'
  clear hM; have hM := hM'; clear hM'
  refine s_assign hE rfl rfl ?_; clear hE a; intro a hE
  refine q_nil ?_
  replace hE : Env a 15 [(1, _), (2, _)] := hE.sel [1, 2] rfl
  refine hK1 _ _ ?_
  refine wp_seq_k (fun K2 hK2 => ?_)
  refine wp_plain [true, true, true, true, true, true, true, true, true, true, true, true, true] rfl rfl ?_
  refine s_fieldAddr hE rfl fo31_1 rfl ?_; clear hE a; intro a hE
  refine s_load1 hE rfl (hM.get 0 rfl) rfl one24 (by intro X h; cases h) rfl ?_; clear hE a; intro a hE
  refine s_bin hE rfl rfl bin_leq rfl ?_; clear hE a; intro a hE
  refine s_move hE rfl rfl ?_; clear hE a; intro a hE
  refine hE.split 6 rfl (fun hb6 hE' => ?_) (fun hb6 hE' => ?_)
  · replace hE := hE'; clear hE'
    replace hb6 := of_decide_eq_true hb6
    replace hb6 : vn ≤ 4611686018427387904 := by omega
    refine g_yes hE rfl rfl ?_
    refine s_fieldAddr hE rfl fo31_0 rfl ?_; clear hE a; intro a hE
    refine g_yes hE rfl rfl ?_
    refine s_load1 hE rfl (hM.get 0 rfl) rfl one4 (by intro X h; cases h) rfl ?_; clear hE a; intro a hE
    refine g_yes hE rfl rfl ?_
    refine s_move hE rfl rfl ?_; clear hE a; intro a hE
    refine hE.split 9 rfl (fun hb9 hE' => ?_) (fun hb9 hE' => ?_)
    · replace hE := hE'; clear hE'
      refine g_no (b := true) hE rfl rfl rfl ?_; clear hE a; intro a hE
      refine g_no (b := true) hE rfl rfl rfl ?_; clear hE a; intro a hE
      refine g_no (b := true) hE rfl rfl rfl ?_; clear hE a; intro a hE
      refine g_yes hE rfl rfl ?_
      refine s_pickt hE rfl rfl rfl ?_; clear hE a; intro a hE
      refine s_pickt hE rfl rfl rfl ?_; clear hE a; intro a hE
      refine s_assign hE rfl rfl ?_; clear hE a; intro a hE
      refine q_nil ?_
      replace hE : Env a 15 [(2, _)] := hE.sel [2] rfl
      refine hK2 _ _ ?_
      refine wp_ret ?_
      refine f_ret1 hE rfl rfl ?_
      exact ⟨(by simp [volB, volZ, hb6, hb9]), hM.pick [] rfl⟩
    · replace hE := hE'; clear hE'
      refine g_yes hE rfl rfl ?_
      refine s_loadN hE rfl (hM.get 0 rfl) row31 rfl (by intro X h; cases h) rfl ?_; clear hE a; intro a hE
      replace hE := hE.cast 10 rfl (show _ = Value.agg ([[.bool vu], [.int .u64 ((vn : Nat) : Int)], bv vd, bv vt] : List (List Value)).flatten.toArray from (by first | rfl | simp only [List.flatten_cons, List.flatten_nil, List.append_nil, List.append_assoc]))
      refine g_yes hE rfl rfl ?_
      refine s_buildS [] hE rfl zero31 (by kernel_rfl) fpl31 (by first | (simp [PartsOk, Value.cells]; done) | (simp [PartsOk, Value.cells]; omega)) rfl ?_; clear hE a; intro a hE
      replace hE := hE.cast 11 rfl (show _ = Value.agg ([[.bool false], [.int .u64 0], bv (List.replicate 32 (0 : UInt8)), bv (List.replicate 32 (0 : UInt8))] : List (List Value)).flatten.toArray from (by first | rfl | simp [setAll] | (simp only [setAll, List.set_cons_zero, List.set_cons_succ, List.flatten_cons, List.flatten_nil, List.append_nil, List.append_assoc, List.replicate_succ, List.replicate_zero])))
      refine g_yes hE rfl rfl ?_
      refine s_bin hE rfl rfl ((eqk31 (b := decide (vu = false ∧ (((vn : Nat) : Int) : Int) = 0 ∧ vd = (List.replicate 32 (0 : UInt8)) ∧ vt = (List.replicate 32 (0 : UInt8)))) (klL31 (k := 0) (x0 := vu) (x1 := ((vn : Nat) : Int)) (x2 := vd) (x3 := vt) (by simp [Lit.wf, IntKind.min, IntKind.max, IntKind.signed, IntKind.bits]; try omega) hl_vd hl_vt) (klL31 (k := 0) (x0 := false) (x1 := 0) (x2 := List.replicate 32 (0 : UInt8)) (x3 := List.replicate 32 (0 : UInt8)) (by simp [Lit.wf, IntKind.min, IntKind.max, IntKind.signed, IntKind.bits]; try omega) List.length_replicate List.length_replicate) (by rw [flat_eq (by have hl_x2 : vd.length = 32 := hl_vd; have hl_x3 : vt.length = 32 := hl_vt; have hl_y2 : (List.replicate 32 (0 : UInt8)).length = 32 := List.length_replicate; have hl_y3 : (List.replicate 32 (0 : UInt8)).length = 32 := List.length_replicate; simp only [List.map_cons, List.map_nil, bv_length, List.length_cons, List.length_nil, hl_x2, hl_x3, hl_y2, hl_y3])]; simp [bv_iff, Int.ofNat_inj]; try omega)).1) rfl ?_; clear hE a; intro a hE
      refine g_yes hE rfl rfl ?_
      refine s_pickf hE rfl rfl rfl ?_; clear hE a; intro a hE
      refine s_pickt hE rfl rfl rfl ?_; clear hE a; intro a hE
      refine s_assign hE rfl rfl ?_; clear hE a; intro a hE
      refine q_nil ?_
      replace hE : Env a 15 [(2, _)] := hE.sel [2] rfl
      refine hK2 _ _ ?_
      refine wp_ret ?_
      refine f_ret1 hE rfl rfl ?_
      exact ⟨(by simp [volB, volZ, hb6, hb9]), hM.pick [] rfl⟩
  · replace hE := hE'; clear hE'
    replace hb6 := of_decide_eq_false hb6
    replace hb6 : ¬ (vn ≤ 4611686018427387904) := by omega
    refine g_no (b := false) hE rfl rfl rfl ?_; clear hE a; intro a hE
    refine g_no (b := false) hE rfl rfl rfl ?_; clear hE a; intro a hE
    refine g_no (b := false) hE rfl rfl rfl ?_; clear hE a; intro a hE
    refine g_und hE rfl rfl rfl ?_; clear hE a; intro a hE
    refine g_und hE rfl rfl rfl ?_; clear hE a; intro a hE
    refine g_und hE rfl rfl rfl ?_; clear hE a; intro a hE
    refine g_no (b := false) hE rfl rfl rfl ?_; clear hE a; intro a hE
    refine s_pickf hE rfl rfl rfl ?_; clear hE a; intro a hE
    refine s_assign hE rfl rfl ?_; clear hE a; intro a hE
    refine q_nil ?_
    replace hE : Env a 15 [(2, _)] := hE.sel [2] rfl
    refine hK2 _ _ ?_
    refine wp_ret ?_
    refine f_ret1 hE rfl rfl ?_
    exact ⟨(by simp [volB, volZ, hb6]), hM.pick [] rfl⟩
theorem slot_c (su : Bool) (si : Int) (sa : List UInt8) (sd : List UInt8) (st : List UInt8) (w : World) (hl_sa : sa.length = 16) (hl_sd : sd.length = 32) (hl_st : st.length = 32) (hi : In64 si) : Calls Try.prog 38 #[.agg ([[.bool su], [.int .i64 si], bv sa, bv sd, bv st] : List (List Value)).flatten.toArray] w fun e w' => e = .returned (.bool (slotB (su, si, sa, sd, st))) ∧ Mem w [] w' [] := by
  have hM := Mem.start0 w
  refine f_enter 12 Try.func38 rfl rfl rfl ?_
  intro a hE
  replace hE : Env a 12 [(0, _)] := hE
  refine wp_seq_k (fun K1 hK1 => ?_)
  refine wp_plain [false, true] rfl rfl ?_
  have hbl1_2 : sa.length = 16 := hl_sa
  have hbl1_3 : sd.length = 32 := hl_sd
  have hbl1_4 : st.length = 32 := hl_st
  refine s_box (ss := [[.bool su], [.int .i64 si], bv sa, bv sd, bv st]) [1, 1, 16, 32, 32] hE hM rfl rfl (by simp only [List.map_cons, List.map_nil, bv_length, List.length_cons, List.length_nil, List.length_replicate, hbl1_2, hbl1_3, hbl1_4]) rfl ?_; clear hE a; intro a b1 w1 hE hM'
  clear hM; have hM := hM'; clear hM'
  refine s_assign hE rfl rfl ?_; clear hE a; intro a hE
  refine q_nil ?_
  replace hE : Env a 12 [(1, _), (2, _)] := hE.sel [1, 2] rfl
  refine hK1 _ _ ?_
  refine wp_seq_k (fun K2 hK2 => ?_)
  refine wp_seq_k (fun K3 hK3 => ?_)
  refine wp_plain [true, true, true] rfl rfl ?_
  refine s_fieldAddr hE rfl fo36_0 rfl ?_; clear hE a; intro a hE
  refine s_load1 hE rfl (hM.get 0 rfl) rfl one4 (by intro X h; cases h) rfl ?_; clear hE a; intro a hE
  refine s_not hE rfl rfl ?_; clear hE a; intro a hE
  refine q_nil ?_
  replace hE : Env a 12 [(1, _), (2, _), (5, _)] := hE.sel [1, 2, 5] rfl
  refine hK3 _ _ ?_
  refine hE.split 5 rfl (fun hb5 hE' => ?_) (fun hb5 hE' => ?_)
  · replace hE := hE'; clear hE'
    replace hb5 := not_true hb5
    refine wp_cond_true (hE.eval rfl) ?_
    refine wp_seq_k (fun K4 hK4 => ?_)
    refine wp_plain [true, true, true, true] rfl rfl ?_
    refine s_loadN hE rfl (hM.get 0 rfl) row36 rfl (by intro X h; cases h) rfl ?_; clear hE a; intro a hE
    replace hE := hE.cast 6 rfl (show _ = Value.agg ([[.bool su], [.int .i64 si], bv sa, bv sd, bv st] : List (List Value)).flatten.toArray from (by first | rfl | simp only [List.flatten_cons, List.flatten_nil, List.append_nil, List.append_assoc]))
    refine s_buildS [] hE rfl zero36 (by kernel_rfl) fpl36 (by first | (simp [PartsOk, Value.cells]; done) | (simp [PartsOk, Value.cells]; omega)) rfl ?_; clear hE a; intro a hE
    replace hE := hE.cast 7 rfl (show _ = Value.agg ([[.bool false], [.int .i64 0], bv (List.replicate 16 (0 : UInt8)), bv (List.replicate 32 (0 : UInt8)), bv (List.replicate 32 (0 : UInt8))] : List (List Value)).flatten.toArray from (by first | rfl | simp [setAll] | (simp only [setAll, List.set_cons_zero, List.set_cons_succ, List.flatten_cons, List.flatten_nil, List.append_nil, List.append_assoc, List.replicate_succ, List.replicate_zero])))
    refine s_bin hE rfl rfl ((eqk36 (b := decide (su = false ∧ (si : Int) = 0 ∧ sa = (List.replicate 16 (0 : UInt8)) ∧ sd = (List.replicate 32 (0 : UInt8)) ∧ st = (List.replicate 32 (0 : UInt8)))) (klL36 (k := 0) (x0 := su) (x1 := si) (x2 := sa) (x3 := sd) (x4 := st) (by first | exact wf_i64 hi | (simp [Lit.wf, IntKind.min, IntKind.max, IntKind.signed, IntKind.bits]; try omega)) hl_sa hl_sd hl_st) (klL36 (k := 0) (x0 := false) (x1 := 0) (x2 := List.replicate 16 (0 : UInt8)) (x3 := List.replicate 32 (0 : UInt8)) (x4 := List.replicate 32 (0 : UInt8)) (by first | exact wf_i64 hi | (simp [Lit.wf, IntKind.min, IntKind.max, IntKind.signed, IntKind.bits]; try omega)) List.length_replicate List.length_replicate List.length_replicate) (by rw [flat_eq (by have hl_x2 : sa.length = 16 := hl_sa; have hl_x3 : sd.length = 32 := hl_sd; have hl_x4 : st.length = 32 := hl_st; have hl_y2 : (List.replicate 16 (0 : UInt8)).length = 16 := List.length_replicate; have hl_y3 : (List.replicate 32 (0 : UInt8)).length = 32 := List.length_replicate; have hl_y4 : (List.replicate 32 (0 : UInt8)).length = 32 := List.length_replicate; simp only [List.map_cons, List.map_nil, bv_length, List.length_cons, List.length_nil, hl_x2, hl_x3, hl_x4, hl_y2, hl_y3, hl_y4])]; simp [bv_iff, Int.ofNat_inj]; try omega)).1) rfl ?_; clear hE a; intro a hE
    refine s_assign hE rfl rfl ?_; clear hE a; intro a hE
    refine q_nil ?_
    replace hE : Env a 12 [(1, _), (2, _), (5, _)] := hE.sel [1, 2, 5] rfl
    refine hK4 _ _ ?_
    refine wp_ret ?_
    refine q_then_r ?_
    refine f_ret1 hE rfl rfl ?_
    exact ⟨(by simp [slotB, slotZ, hb5]), hM.pick [] rfl⟩
  · replace hE := hE'; clear hE'
    replace hb5 := not_false' hb5
    refine wp_cond_false (hE.eval rfl) ?_
    refine wp_skip ?_
    refine hK2 _ _ ?_
    refine wp_seq_k (fun K4 hK4 => ?_)
    refine wp_plain [true, true, true, true] rfl rfl ?_
    refine s_fieldAddr hE rfl fo36_1 rfl ?_; clear hE a; intro a hE
    refine s_load1 hE rfl (hM.get 0 rfl) rfl one3 (by intro X h; cases h) rfl ?_; clear hE a; intro a hE
    refine s_bin hE rfl rfl bin_geq rfl ?_; clear hE a; intro a hE
    refine s_assign hE rfl rfl ?_; clear hE a; intro a hE
    refine q_nil ?_
    replace hE : Env a 12 [(1, _), (2, _), (5, _)] := hE.sel [1, 2, 5] rfl
    refine hK4 _ _ ?_
    refine wp_ret ?_
    refine f_ret1 hE rfl rfl ?_
    exact ⟨(by simp [slotB, slotZ, hb5]), hM.pick [] rfl⟩
theorem shaped_c (h : Hd) (w : World) (hk : OkHd h) : Calls Try.prog 23 #[.agg ([[.int .i64 h.m], [.int .i64 h.r], [.bool h.v0.1], [.int .u64 ((h.v0.2.1 : Nat) : Int)], bv h.v0.2.2.1, bv h.v0.2.2.2, [.bool h.v1.1], [.int .u64 ((h.v1.2.1 : Nat) : Int)], bv h.v1.2.2.1, bv h.v1.2.2.2, [.bool h.s0.1], [.int .i64 h.s0.2.1], bv h.s0.2.2.1, bv h.s0.2.2.2.1, bv h.s0.2.2.2.2, [.bool h.s1.1], [.int .i64 h.s1.2.1], bv h.s1.2.2.1, bv h.s1.2.2.2.1, bv h.s1.2.2.2.2, [.bool h.s2.1], [.int .i64 h.s2.2.1], bv h.s2.2.2.1, bv h.s2.2.2.2.1, bv h.s2.2.2.2.2, [.bool h.s3.1], [.int .i64 h.s3.2.1], bv h.s3.2.2.1, bv h.s3.2.2.2.1, bv h.s3.2.2.2.2] : List (List Value)).flatten.toArray] w fun e w' => e = .returned (.bool (shapedB h)) ∧ Mem w [] w' [] := by
  have hi0 := hk.s0.1
  have hi1 := hk.s1.1
  have hi2 := hk.s2.1
  have hi3 := hk.s3.1
  have hn0 := hk.v0.1
  have hn1 := hk.v1.1
  have hM := Mem.start0 w
  refine f_enter 29 Try.func23 rfl rfl rfl ?_
  intro a hE
  replace hE : Env a 29 [(0, _)] := hE
  refine wp_seq_k (fun K1 hK1 => ?_)
  refine wp_plain [false, true] rfl rfl ?_
  have hbl1_4 : h.v0.2.2.1.length = 32 := hk.v0.2.1
  have hbl1_5 : h.v0.2.2.2.length = 32 := hk.v0.2.2
  have hbl1_8 : h.v1.2.2.1.length = 32 := hk.v1.2.1
  have hbl1_9 : h.v1.2.2.2.length = 32 := hk.v1.2.2
  have hbl1_12 : h.s0.2.2.1.length = 16 := hk.s0.2.1
  have hbl1_13 : h.s0.2.2.2.1.length = 32 := hk.s0.2.2.1
  have hbl1_14 : h.s0.2.2.2.2.length = 32 := hk.s0.2.2.2
  have hbl1_17 : h.s1.2.2.1.length = 16 := hk.s1.2.1
  have hbl1_18 : h.s1.2.2.2.1.length = 32 := hk.s1.2.2.1
  have hbl1_19 : h.s1.2.2.2.2.length = 32 := hk.s1.2.2.2
  have hbl1_22 : h.s2.2.2.1.length = 16 := hk.s2.2.1
  have hbl1_23 : h.s2.2.2.2.1.length = 32 := hk.s2.2.2.1
  have hbl1_24 : h.s2.2.2.2.2.length = 32 := hk.s2.2.2.2
  have hbl1_27 : h.s3.2.2.1.length = 16 := hk.s3.2.1
  have hbl1_28 : h.s3.2.2.2.1.length = 32 := hk.s3.2.2.1
  have hbl1_29 : h.s3.2.2.2.2.length = 32 := hk.s3.2.2.2
  refine s_box (ss := [[.int .i64 h.m], [.int .i64 h.r], [.bool h.v0.1], [.int .u64 ((h.v0.2.1 : Nat) : Int)], bv h.v0.2.2.1, bv h.v0.2.2.2, [.bool h.v1.1], [.int .u64 ((h.v1.2.1 : Nat) : Int)], bv h.v1.2.2.1, bv h.v1.2.2.2, [.bool h.s0.1], [.int .i64 h.s0.2.1], bv h.s0.2.2.1, bv h.s0.2.2.2.1, bv h.s0.2.2.2.2, [.bool h.s1.1], [.int .i64 h.s1.2.1], bv h.s1.2.2.1, bv h.s1.2.2.2.1, bv h.s1.2.2.2.2, [.bool h.s2.1], [.int .i64 h.s2.2.1], bv h.s2.2.2.1, bv h.s2.2.2.2.1, bv h.s2.2.2.2.2, [.bool h.s3.1], [.int .i64 h.s3.2.1], bv h.s3.2.2.1, bv h.s3.2.2.2.1, bv h.s3.2.2.2.2]) [1, 1, 1, 1, 32, 32, 1, 1, 32, 32, 1, 1, 16, 32, 32, 1, 1, 16, 32, 32, 1, 1, 16, 32, 32, 1, 1, 16, 32, 32] hE hM rfl rfl (by simp only [List.map_cons, List.map_nil, bv_length, List.length_cons, List.length_nil, List.length_replicate, hbl1_4, hbl1_5, hbl1_8, hbl1_9, hbl1_12, hbl1_13, hbl1_14, hbl1_17, hbl1_18, hbl1_19, hbl1_22, hbl1_23, hbl1_24, hbl1_27, hbl1_28, hbl1_29]) rfl ?_; clear hE a; intro a b1 w1 hE hM'
  clear hM; have hM := hM'; clear hM'
  refine s_assign hE rfl rfl ?_; clear hE a; intro a hE
  refine q_nil ?_
  replace hE : Env a 29 [(1, _), (2, _)] := hE.sel [1, 2] rfl
  refine hK1 _ _ ?_
  refine wp_seq_k (fun K2 hK2 => ?_)
  refine wp_seq_k (fun K3 hK3 => ?_)
  refine wp_plain [true, true, true] rfl rfl ?_
  refine s_fieldAddr hE rfl fo39_1 rfl ?_; clear hE a; intro a hE
  refine s_loadN hE rfl (hM.get 0 rfl) row32 rfl (by intro X h; cases h) rfl ?_; clear hE a; intro a hE
  replace hE := hE.cast 8 rfl (show _ = Value.agg ([[.bool h.v0.1], [.int .u64 ((h.v0.2.1 : Nat) : Int)], bv h.v0.2.2.1, bv h.v0.2.2.2, [.bool h.v1.1], [.int .u64 ((h.v1.2.1 : Nat) : Int)], bv h.v1.2.2.1, bv h.v1.2.2.2] : List (List Value)).flatten.toArray from (by first | rfl | simp only [List.flatten_cons, List.flatten_nil, List.append_nil, List.append_assoc]))
  refine s_move hE rfl rfl ?_; clear hE a; intro a hE
  refine q_nil ?_
  replace hE : Env a 29 [(1, _), (2, _), (8, _), (9, _)] := hE.sel [1, 2, 8, 9] rfl
  refine hK3 _ _ ?_
  refine wp_block ?_
  refine wp_loop_rounds 3 (c_rounds ?_)
  refine wp_seq_k (fun K4 hK4 => ?_)
  refine wp_plain [true] rfl rfl ?_
  refine s_bin hE rfl rfl bin_lss rfl ?_; clear hE a; intro a hE
  replace hE := hE.cast 10 rfl (show _ = Value.bool true from (congrArg Value.bool (by decide)))
  refine q_nil ?_
  refine hK4 _ _ ?_
  refine wp_seq_k (fun K5 hK5 => ?_)
  refine wp_cond_true (hE.eval rfl) ?_
  refine wp_skip ?_
  refine hK5 _ _ ?_
  refine wp_seq_k (fun K6 hK6 => ?_)
  refine wp_block ?_
  refine wp_seq_k (fun K7 hK7 => ?_)
  refine wp_plain [true, false, false] rfl rfl ?_
  have hil60_2 : h.v0.2.2.1.length = 32 := hk.v0.2.1
  have hil60_3 : h.v0.2.2.2.length = 32 := hk.v0.2.2
  have hil60_6 : h.v1.2.2.1.length = 32 := hk.v1.2.1
  have hil60_7 : h.v1.2.2.2.length = 32 := hk.v1.2.2
  refine s_indexAgg (j := 0) hE rfl rfl Try.underlying32 row31 rfl (by decide) rfl ?_; clear hE a; intro a hE
  replace hE := hE.cast 11 rfl (show _ = Value.agg ([[.bool h.v0.1], [.int .u64 ((h.v0.2.1 : Nat) : Int)], bv h.v0.2.2.1, bv h.v0.2.2.2] : List (List Value)).flatten.toArray from congrArg (fun l : List Value => Value.agg l.toArray) (flat_seg (ps := []) (qs := [[.bool h.v0.1], [.int .u64 ((h.v0.2.1 : Nat) : Int)], bv h.v0.2.2.1, bv h.v0.2.2.2]) (rs := [[.bool h.v1.1], [.int .u64 ((h.v1.2.1 : Nat) : Int)], bv h.v1.2.2.1, bv h.v1.2.2.2]) (by simp only [List.map_cons, List.map_nil, bv_length, List.length_cons, List.length_nil, List.length_replicate, hil60_2, hil60_3, hil60_6, hil60_7]; rfl) (by simp only [List.map_cons, List.map_nil, bv_length, List.length_cons, List.length_nil, List.length_replicate, hil60_2, hil60_3, hil60_6, hil60_7]; rfl)))
  refine s_alloc [1, 1, 32, 32] hE hM zeroL31 rfl rfl ?_; clear hE a; intro a b4 w2 hE hM'
  clear hM; have hM := hM'; clear hM'
  have hsl68_2 : h.v0.2.2.1.length = 32 := hk.v0.2.1
  have hsl68_3 : h.v0.2.2.2.length = 32 := hk.v0.2.2
  refine s_storeSegs 0 4 (vss := [[.bool h.v0.1], [.int .u64 ((h.v0.2.1 : Nat) : Int)], bv h.v0.2.2.1, bv h.v0.2.2.2]) hE rfl rfl hM rfl sz31 (by simp only [List.take_succ_cons, List.take_zero, List.drop_zero, List.drop_succ_cons]; simp only [List.map_cons, List.map_nil, bv_length, List.length_cons, List.length_nil, List.length_replicate, hsl68_2, hsl68_3]) (by decide) rfl (one_fl ⟨one1 rfl, one1 rfl, bv_one _, bv_one _, trivial⟩) rfl (by intro X h; cases h) ?_; intro w3 hM'; clear hM; have hM := hM'; clear hM'
  try simp only [List.take_zero, List.take_succ_cons, List.drop_zero, List.drop_succ_cons, List.take_nil, List.drop_nil, List.nil_append, List.append_nil, List.cons_append] at hM
  refine q_nil ?_
  replace hE : Env a 29 [(1, _), (2, _), (4, _), (8, _), (9, _), (10, _)] := hE.sel [1, 2, 4, 8, 9, 10] rfl
  refine hK7 _ _ ?_
  refine wp_seq_k (fun K8 hK8 => ?_)
  refine wp_plain [true, false, true] rfl rfl ?_
  refine s_loadN hE rfl (hM.get 0 rfl) row31 rfl (by intro X h; cases h) rfl ?_; clear hE a; intro a hE
  replace hE := hE.cast 12 rfl (show _ = Value.agg ([[.bool h.v0.1], [.int .u64 ((h.v0.2.1 : Nat) : Int)], bv h.v0.2.2.1, bv h.v0.2.2.2] : List (List Value)).flatten.toArray from (by first | rfl | simp only [List.flatten_cons, List.flatten_nil, List.append_nil, List.append_assoc]))
  refine s_call hE rfl Try.call37 (volume_c h.v0.1 h.v0.2.1 h.v0.2.2.1 h.v0.2.2.2 _ hk.v0.2.1 hk.v0.2.2) rfl ?_
  rintro e w4 ⟨rfl, hN⟩
  refine ⟨_, rfl, trivial, ?_⟩; clear hE a; intro a hE
  replace hM : Mem _ _ w4 [_, _] := hM.call0 hN trivial; clear hN
  refine s_not hE rfl rfl ?_; clear hE a; intro a hE
  refine q_nil ?_
  replace hE : Env a 29 [(1, _), (2, _), (4, _), (8, _), (9, _), (10, _), (14, _)] := hE.sel [1, 2, 4, 8, 9, 10, 14] rfl
  refine hK8 _ _ ?_
  refine hE.split 14 rfl (fun hb14 hE' => ?_) (fun hb14 hE' => ?_)
  · replace hE := hE'; clear hE'
    replace hb14 := not_true hb14
    refine wp_cond_true (hE.eval rfl) ?_
    refine wp_seq_k (fun K9 hK9 => ?_)
    refine wp_plain [true] rfl rfl ?_
    refine s_assign hE rfl rfl ?_; clear hE a; intro a hE
    refine q_nil ?_
    refine hK9 _ _ ?_
    refine wp_ret ?_
    refine q_block_r ?_
    refine q_then_r ?_
    refine q_then_r ?_
    refine q_block_r ?_
    refine q_then_r ?_
    refine f_ret1 hE rfl rfl ?_
    exact ⟨(by simp [shapedB, hb14]; try (cases geoB h.m h.r <;> simp)), hM.pick [] rfl⟩
  · replace hE := hE'; clear hE'
    replace hb14 := not_false' hb14
    refine wp_cond_false (hE.eval rfl) ?_
    refine wp_skip ?_
    refine q_block_n ?_
    refine hK6 _ _ ?_
    refine wp_plain [true, true] rfl rfl ?_
    refine s_bin hE rfl rfl (show Bin _ _ _ _ _ (.int .i64 1) from bin_add (by rw [wrap_i64 (by omega) (by omega)]; omega)) rfl ?_; clear hE a; intro a hE
    refine s_move hE rfl rfl ?_; clear hE a; intro a hE
    refine q_nil ?_
    replace hE : Env a 29 [(1, _), (2, _), (4, _), (8, _), (9, _), (10, _), (14, _)] := hE.sel [1, 2, 4, 8, 9, 10, 14] rfl
    replace hM : Mem _ _ w4 [_, _] := hM.pick [0, 1] rfl
    refine q_then_n (c_rounds ?_)
    refine wp_seq_k (fun K9 hK9 => ?_)
    refine wp_plain [true] rfl rfl ?_
    refine s_bin hE rfl rfl bin_lss rfl ?_; clear hE a; intro a hE
    replace hE := hE.cast 10 rfl (show _ = Value.bool true from (congrArg Value.bool (by decide)))
    refine q_nil ?_
    refine hK9 _ _ ?_
    refine wp_seq_k (fun K10 hK10 => ?_)
    refine wp_cond_true (hE.eval rfl) ?_
    refine wp_skip ?_
    refine hK10 _ _ ?_
    refine wp_seq_k (fun K11 hK11 => ?_)
    refine wp_block ?_
    refine wp_seq_k (fun K12 hK12 => ?_)
    refine wp_plain [true, false, false] rfl rfl ?_
    have hil131_2 : h.v0.2.2.1.length = 32 := hk.v0.2.1
    have hil131_3 : h.v0.2.2.2.length = 32 := hk.v0.2.2
    have hil131_6 : h.v1.2.2.1.length = 32 := hk.v1.2.1
    have hil131_7 : h.v1.2.2.2.length = 32 := hk.v1.2.2
    refine s_indexAgg (j := 1) hE rfl rfl Try.underlying32 row31 rfl (by decide) rfl ?_; clear hE a; intro a hE
    replace hE := hE.cast 11 rfl (show _ = Value.agg ([[.bool h.v1.1], [.int .u64 ((h.v1.2.1 : Nat) : Int)], bv h.v1.2.2.1, bv h.v1.2.2.2] : List (List Value)).flatten.toArray from congrArg (fun l : List Value => Value.agg l.toArray) (flat_seg (ps := [[.bool h.v0.1], [.int .u64 ((h.v0.2.1 : Nat) : Int)], bv h.v0.2.2.1, bv h.v0.2.2.2]) (qs := [[.bool h.v1.1], [.int .u64 ((h.v1.2.1 : Nat) : Int)], bv h.v1.2.2.1, bv h.v1.2.2.2]) (rs := []) (by simp only [List.map_cons, List.map_nil, bv_length, List.length_cons, List.length_nil, List.length_replicate, hil131_2, hil131_3, hil131_6, hil131_7]; rfl) (by simp only [List.map_cons, List.map_nil, bv_length, List.length_cons, List.length_nil, List.length_replicate, hil131_2, hil131_3, hil131_6, hil131_7]; rfl)))
    refine s_alloc [1, 1, 32, 32] hE hM zeroL31 rfl rfl ?_; clear hE a; intro a b4 w5 hE hM'
    clear hM; have hM := hM'; clear hM'
    have hsl139_2 : h.v1.2.2.1.length = 32 := hk.v1.2.1
    have hsl139_3 : h.v1.2.2.2.length = 32 := hk.v1.2.2
    replace hM : Mem _ _ w5 [_, _] := hM.pick [0, 2] rfl
    refine s_storeSegs 0 4 (vss := [[.bool h.v1.1], [.int .u64 ((h.v1.2.1 : Nat) : Int)], bv h.v1.2.2.1, bv h.v1.2.2.2]) hE rfl rfl hM rfl sz31 (by simp only [List.take_succ_cons, List.take_zero, List.drop_zero, List.drop_succ_cons]; simp only [List.map_cons, List.map_nil, bv_length, List.length_cons, List.length_nil, List.length_replicate, hsl139_2, hsl139_3]) (by decide) rfl (one_fl ⟨one1 rfl, one1 rfl, bv_one _, bv_one _, trivial⟩) rfl (by intro X h; cases h) ?_; intro w6 hM'; clear hM; have hM := hM'; clear hM'
    try simp only [List.take_zero, List.take_succ_cons, List.drop_zero, List.drop_succ_cons, List.take_nil, List.drop_nil, List.nil_append, List.append_nil, List.cons_append] at hM
    refine q_nil ?_
    replace hE : Env a 29 [(1, _), (2, _), (4, _), (8, _), (9, _), (10, _), (14, _)] := hE.sel [1, 2, 4, 8, 9, 10, 14] rfl
    refine hK12 _ _ ?_
    refine wp_seq_k (fun K13 hK13 => ?_)
    refine wp_plain [true, false, true] rfl rfl ?_
    refine s_loadN hE rfl (hM.get 0 rfl) row31 rfl (by intro X h; cases h) rfl ?_; clear hE a; intro a hE
    replace hE := hE.cast 12 rfl (show _ = Value.agg ([[.bool h.v1.1], [.int .u64 ((h.v1.2.1 : Nat) : Int)], bv h.v1.2.2.1, bv h.v1.2.2.2] : List (List Value)).flatten.toArray from (by first | rfl | simp only [List.flatten_cons, List.flatten_nil, List.append_nil, List.append_assoc]))
    refine s_call hE rfl Try.call37 (volume_c h.v1.1 h.v1.2.1 h.v1.2.2.1 h.v1.2.2.2 _ hk.v1.2.1 hk.v1.2.2) rfl ?_
    rintro e w7 ⟨rfl, hN⟩
    refine ⟨_, rfl, trivial, ?_⟩; clear hE a; intro a hE
    replace hM : Mem _ _ w7 [_, _] := hM.call0 hN trivial; clear hN
    refine s_not hE rfl rfl ?_; clear hE a; intro a hE
    refine q_nil ?_
    replace hE : Env a 29 [(1, _), (2, _), (4, _), (8, _), (9, _), (10, _), (14, _)] := hE.sel [1, 2, 4, 8, 9, 10, 14] rfl
    refine hK13 _ _ ?_
    refine hE.split 14 rfl (fun hb14' hE' => ?_) (fun hb14' hE' => ?_)
    · replace hE := hE'; clear hE'
      replace hb14' := not_true hb14'
      refine wp_cond_true (hE.eval rfl) ?_
      refine wp_seq_k (fun K14 hK14 => ?_)
      refine wp_plain [true] rfl rfl ?_
      refine s_assign hE rfl rfl ?_; clear hE a; intro a hE
      refine q_nil ?_
      refine hK14 _ _ ?_
      refine wp_ret ?_
      refine q_block_r ?_
      refine q_then_r ?_
      refine q_then_r ?_
      refine q_block_r ?_
      refine q_then_r ?_
      refine f_ret1 hE rfl rfl ?_
      exact ⟨(by simp [shapedB, hb14, hb14']; try (cases geoB h.m h.r <;> simp)), hM.pick [] rfl⟩
    · replace hE := hE'; clear hE'
      replace hb14' := not_false' hb14'
      refine wp_cond_false (hE.eval rfl) ?_
      refine wp_skip ?_
      refine q_block_n ?_
      refine hK11 _ _ ?_
      refine wp_plain [true, true] rfl rfl ?_
      refine s_bin hE rfl rfl (show Bin _ _ _ _ _ (.int .i64 2) from bin_add (by rw [wrap_i64 (by omega) (by omega)]; omega)) rfl ?_; clear hE a; intro a hE
      refine s_move hE rfl rfl ?_; clear hE a; intro a hE
      refine q_nil ?_
      replace hE : Env a 29 [(1, _), (2, _), (4, _), (8, _), (9, _), (10, _), (14, _)] := hE.sel [1, 2, 4, 8, 9, 10, 14] rfl
      replace hM : Mem _ _ w7 [_, _] := hM.pick [0, 1] rfl
      refine q_then_n (c_rounds ?_)
      refine wp_seq_k (fun K14 hK14 => ?_)
      refine wp_plain [true] rfl rfl ?_
      refine s_bin hE rfl rfl bin_lss rfl ?_; clear hE a; intro a hE
      replace hE := hE.cast 10 rfl (show _ = Value.bool false from (congrArg Value.bool (by decide)))
      refine q_nil ?_
      refine hK14 _ _ ?_
      refine wp_seq_k (fun K15 hK15 => ?_)
      refine wp_cond_false (hE.eval rfl) ?_
      refine wp_exit ?_
      refine q_then_e ?_
      refine q_then_e ?_
      refine q_block_x ?_
      refine hK2 _ _ ?_
      refine wp_seq_k (fun K16 hK16 => ?_)
      refine wp_seq_k (fun K17 hK17 => ?_)
      refine wp_plain [true, true, true] rfl rfl ?_
      refine s_fieldAddr hE rfl fo39_2 rfl ?_; clear hE a; intro a hE
      refine s_loadN hE rfl (hM.get 1 rfl) row37 rfl (by intro X h; cases h) rfl ?_; clear hE a; intro a hE
      replace hE := hE.cast 17 rfl (show _ = Value.agg ([[.bool h.s0.1], [.int .i64 h.s0.2.1], bv h.s0.2.2.1, bv h.s0.2.2.2.1, bv h.s0.2.2.2.2, [.bool h.s1.1], [.int .i64 h.s1.2.1], bv h.s1.2.2.1, bv h.s1.2.2.2.1, bv h.s1.2.2.2.2, [.bool h.s2.1], [.int .i64 h.s2.2.1], bv h.s2.2.2.1, bv h.s2.2.2.2.1, bv h.s2.2.2.2.2, [.bool h.s3.1], [.int .i64 h.s3.2.1], bv h.s3.2.2.1, bv h.s3.2.2.2.1, bv h.s3.2.2.2.2] : List (List Value)).flatten.toArray from (by first | rfl | simp only [List.flatten_cons, List.flatten_nil, List.append_nil, List.append_assoc]))
      refine s_move hE rfl rfl ?_; clear hE a; intro a hE
      refine q_nil ?_
      replace hE : Env a 29 [(1, _), (2, _), (4, _), (8, _), (9, _), (10, _), (14, _), (17, _), (18, _)] := hE.sel [1, 2, 4, 8, 9, 10, 14, 17, 18] rfl
      refine hK17 _ _ ?_
      refine wp_block ?_
      refine wp_loop_rounds 5 (c_rounds ?_)
      refine wp_seq_k (fun K18 hK18 => ?_)
      refine wp_plain [true] rfl rfl ?_
      refine s_bin hE rfl rfl bin_lss rfl ?_; clear hE a; intro a hE
      replace hE := hE.cast 19 rfl (show _ = Value.bool true from (congrArg Value.bool (by decide)))
      refine q_nil ?_
      refine hK18 _ _ ?_
      refine wp_seq_k (fun K19 hK19 => ?_)
      refine wp_cond_true (hE.eval rfl) ?_
      refine wp_skip ?_
      refine hK19 _ _ ?_
      refine wp_seq_k (fun K20 hK20 => ?_)
      refine wp_block ?_
      refine wp_seq_k (fun K21 hK21 => ?_)
      refine wp_plain [true, false, false] rfl rfl ?_
      have hil228_2 : h.s0.2.2.1.length = 16 := hk.s0.2.1
      have hil228_3 : h.s0.2.2.2.1.length = 32 := hk.s0.2.2.1
      have hil228_4 : h.s0.2.2.2.2.length = 32 := hk.s0.2.2.2
      have hil228_7 : h.s1.2.2.1.length = 16 := hk.s1.2.1
      have hil228_8 : h.s1.2.2.2.1.length = 32 := hk.s1.2.2.1
      have hil228_9 : h.s1.2.2.2.2.length = 32 := hk.s1.2.2.2
      have hil228_12 : h.s2.2.2.1.length = 16 := hk.s2.2.1
      have hil228_13 : h.s2.2.2.2.1.length = 32 := hk.s2.2.2.1
      have hil228_14 : h.s2.2.2.2.2.length = 32 := hk.s2.2.2.2
      have hil228_17 : h.s3.2.2.1.length = 16 := hk.s3.2.1
      have hil228_18 : h.s3.2.2.2.1.length = 32 := hk.s3.2.2.1
      have hil228_19 : h.s3.2.2.2.2.length = 32 := hk.s3.2.2.2
      refine s_indexAgg (j := 0) hE rfl rfl Try.underlying37 row36 rfl (by decide) rfl ?_; clear hE a; intro a hE
      replace hE := hE.cast 20 rfl (show _ = Value.agg ([[.bool h.s0.1], [.int .i64 h.s0.2.1], bv h.s0.2.2.1, bv h.s0.2.2.2.1, bv h.s0.2.2.2.2] : List (List Value)).flatten.toArray from congrArg (fun l : List Value => Value.agg l.toArray) (flat_seg (ps := []) (qs := [[.bool h.s0.1], [.int .i64 h.s0.2.1], bv h.s0.2.2.1, bv h.s0.2.2.2.1, bv h.s0.2.2.2.2]) (rs := [[.bool h.s1.1], [.int .i64 h.s1.2.1], bv h.s1.2.2.1, bv h.s1.2.2.2.1, bv h.s1.2.2.2.2, [.bool h.s2.1], [.int .i64 h.s2.2.1], bv h.s2.2.2.1, bv h.s2.2.2.2.1, bv h.s2.2.2.2.2, [.bool h.s3.1], [.int .i64 h.s3.2.1], bv h.s3.2.2.1, bv h.s3.2.2.2.1, bv h.s3.2.2.2.2]) (by simp only [List.map_cons, List.map_nil, bv_length, List.length_cons, List.length_nil, List.length_replicate, hil228_2, hil228_3, hil228_4, hil228_7, hil228_8, hil228_9, hil228_12, hil228_13, hil228_14, hil228_17, hil228_18, hil228_19]; rfl) (by simp only [List.map_cons, List.map_nil, bv_length, List.length_cons, List.length_nil, List.length_replicate, hil228_2, hil228_3, hil228_4, hil228_7, hil228_8, hil228_9, hil228_12, hil228_13, hil228_14, hil228_17, hil228_18, hil228_19]; rfl)))
      refine s_alloc [1, 1, 16, 32, 32] hE hM zeroL36 rfl rfl ?_; clear hE a; intro a b6 w8 hE hM'
      clear hM; have hM := hM'; clear hM'
      have hsl244_2 : h.s0.2.2.1.length = 16 := hk.s0.2.1
      have hsl244_3 : h.s0.2.2.2.1.length = 32 := hk.s0.2.2.1
      have hsl244_4 : h.s0.2.2.2.2.length = 32 := hk.s0.2.2.2
      refine s_storeSegs 0 5 (vss := [[.bool h.s0.1], [.int .i64 h.s0.2.1], bv h.s0.2.2.1, bv h.s0.2.2.2.1, bv h.s0.2.2.2.2]) hE rfl rfl hM rfl sz36 (by simp only [List.take_succ_cons, List.take_zero, List.drop_zero, List.drop_succ_cons]; simp only [List.map_cons, List.map_nil, bv_length, List.length_cons, List.length_nil, List.length_replicate, hsl244_2, hsl244_3, hsl244_4]) (by decide) rfl (one_fl ⟨one1 rfl, one1 rfl, bv_one _, bv_one _, bv_one _, trivial⟩) rfl (by intro X h; cases h) ?_; intro w9 hM'; clear hM; have hM := hM'; clear hM'
      try simp only [List.take_zero, List.take_succ_cons, List.drop_zero, List.drop_succ_cons, List.take_nil, List.drop_nil, List.nil_append, List.append_nil, List.cons_append] at hM
      refine q_nil ?_
      replace hE : Env a 29 [(1, _), (2, _), (4, _), (6, _), (8, _), (9, _), (10, _), (14, _), (17, _), (18, _), (19, _)] := hE.sel [1, 2, 4, 6, 8, 9, 10, 14, 17, 18, 19] rfl
      refine hK21 _ _ ?_
      refine wp_seq_k (fun K22 hK22 => ?_)
      refine wp_plain [true, false, true] rfl rfl ?_
      refine s_loadN hE rfl (hM.get 0 rfl) row36 rfl (by intro X h; cases h) rfl ?_; clear hE a; intro a hE
      replace hE := hE.cast 21 rfl (show _ = Value.agg ([[.bool h.s0.1], [.int .i64 h.s0.2.1], bv h.s0.2.2.1, bv h.s0.2.2.2.1, bv h.s0.2.2.2.2] : List (List Value)).flatten.toArray from (by first | rfl | simp only [List.flatten_cons, List.flatten_nil, List.append_nil, List.append_assoc]))
      refine s_call hE rfl Try.call38 (slot_c h.s0.1 h.s0.2.1 h.s0.2.2.1 h.s0.2.2.2.1 h.s0.2.2.2.2 _ hk.s0.2.1 hk.s0.2.2.1 hk.s0.2.2.2 (by have hl_0sa : h.s0.2.2.1.length = 16 := hk.s0.2.1; have hl_0sd : h.s0.2.2.2.1.length = 32 := hk.s0.2.2.1; have hl_0st : h.s0.2.2.2.2.length = 32 := hk.s0.2.2.2; first | omega | assumption | (simp; done) | (simp; omega) | decide)) rfl ?_
      rintro e w10 ⟨rfl, hN⟩
      refine ⟨_, rfl, trivial, ?_⟩; clear hE a; intro a hE
      replace hM : Mem _ _ w10 [_, _, _] := hM.call0 hN trivial; clear hN
      refine s_not hE rfl rfl ?_; clear hE a; intro a hE
      refine q_nil ?_
      replace hE : Env a 29 [(1, _), (2, _), (4, _), (6, _), (8, _), (9, _), (10, _), (14, _), (17, _), (18, _), (19, _), (23, _)] := hE.sel [1, 2, 4, 6, 8, 9, 10, 14, 17, 18, 19, 23] rfl
      refine hK22 _ _ ?_
      refine hE.split 23 rfl (fun hb23 hE' => ?_) (fun hb23 hE' => ?_)
      · replace hE := hE'; clear hE'
        replace hb23 := not_true hb23
        refine wp_cond_true (hE.eval rfl) ?_
        refine wp_seq_k (fun K23 hK23 => ?_)
        refine wp_plain [true] rfl rfl ?_
        refine s_assign hE rfl rfl ?_; clear hE a; intro a hE
        refine q_nil ?_
        refine hK23 _ _ ?_
        refine wp_ret ?_
        refine q_block_r ?_
        refine q_then_r ?_
        refine q_then_r ?_
        refine q_block_r ?_
        refine q_then_r ?_
        refine f_ret1 hE rfl rfl ?_
        exact ⟨(by simp [shapedB, hb14, hb14', hb23]; try (cases geoB h.m h.r <;> simp)), hM.pick [] rfl⟩
      · replace hE := hE'; clear hE'
        replace hb23 := not_false' hb23
        refine wp_cond_false (hE.eval rfl) ?_
        refine wp_skip ?_
        refine q_block_n ?_
        refine hK20 _ _ ?_
        refine wp_plain [true, true] rfl rfl ?_
        refine s_bin hE rfl rfl (show Bin _ _ _ _ _ (.int .i64 1) from bin_add (by rw [wrap_i64 (by omega) (by omega)]; omega)) rfl ?_; clear hE a; intro a hE
        refine s_move hE rfl rfl ?_; clear hE a; intro a hE
        refine q_nil ?_
        replace hE : Env a 29 [(1, _), (2, _), (4, _), (6, _), (8, _), (9, _), (10, _), (14, _), (17, _), (18, _), (19, _), (23, _)] := hE.sel [1, 2, 4, 6, 8, 9, 10, 14, 17, 18, 19, 23] rfl
        replace hM : Mem _ _ w10 [_, _, _] := hM.pick [0, 1, 2] rfl
        refine q_then_n (c_rounds ?_)
        refine wp_seq_k (fun K23 hK23 => ?_)
        refine wp_plain [true] rfl rfl ?_
        refine s_bin hE rfl rfl bin_lss rfl ?_; clear hE a; intro a hE
        replace hE := hE.cast 19 rfl (show _ = Value.bool true from (congrArg Value.bool (by decide)))
        refine q_nil ?_
        refine hK23 _ _ ?_
        refine wp_seq_k (fun K24 hK24 => ?_)
        refine wp_cond_true (hE.eval rfl) ?_
        refine wp_skip ?_
        refine hK24 _ _ ?_
        refine wp_seq_k (fun K25 hK25 => ?_)
        refine wp_block ?_
        refine wp_seq_k (fun K26 hK26 => ?_)
        refine wp_plain [true, false, false] rfl rfl ?_
        have hil308_2 : h.s0.2.2.1.length = 16 := hk.s0.2.1
        have hil308_3 : h.s0.2.2.2.1.length = 32 := hk.s0.2.2.1
        have hil308_4 : h.s0.2.2.2.2.length = 32 := hk.s0.2.2.2
        have hil308_7 : h.s1.2.2.1.length = 16 := hk.s1.2.1
        have hil308_8 : h.s1.2.2.2.1.length = 32 := hk.s1.2.2.1
        have hil308_9 : h.s1.2.2.2.2.length = 32 := hk.s1.2.2.2
        have hil308_12 : h.s2.2.2.1.length = 16 := hk.s2.2.1
        have hil308_13 : h.s2.2.2.2.1.length = 32 := hk.s2.2.2.1
        have hil308_14 : h.s2.2.2.2.2.length = 32 := hk.s2.2.2.2
        have hil308_17 : h.s3.2.2.1.length = 16 := hk.s3.2.1
        have hil308_18 : h.s3.2.2.2.1.length = 32 := hk.s3.2.2.1
        have hil308_19 : h.s3.2.2.2.2.length = 32 := hk.s3.2.2.2
        refine s_indexAgg (j := 1) hE rfl rfl Try.underlying37 row36 rfl (by decide) rfl ?_; clear hE a; intro a hE
        replace hE := hE.cast 20 rfl (show _ = Value.agg ([[.bool h.s1.1], [.int .i64 h.s1.2.1], bv h.s1.2.2.1, bv h.s1.2.2.2.1, bv h.s1.2.2.2.2] : List (List Value)).flatten.toArray from congrArg (fun l : List Value => Value.agg l.toArray) (flat_seg (ps := [[.bool h.s0.1], [.int .i64 h.s0.2.1], bv h.s0.2.2.1, bv h.s0.2.2.2.1, bv h.s0.2.2.2.2]) (qs := [[.bool h.s1.1], [.int .i64 h.s1.2.1], bv h.s1.2.2.1, bv h.s1.2.2.2.1, bv h.s1.2.2.2.2]) (rs := [[.bool h.s2.1], [.int .i64 h.s2.2.1], bv h.s2.2.2.1, bv h.s2.2.2.2.1, bv h.s2.2.2.2.2, [.bool h.s3.1], [.int .i64 h.s3.2.1], bv h.s3.2.2.1, bv h.s3.2.2.2.1, bv h.s3.2.2.2.2]) (by simp only [List.map_cons, List.map_nil, bv_length, List.length_cons, List.length_nil, List.length_replicate, hil308_2, hil308_3, hil308_4, hil308_7, hil308_8, hil308_9, hil308_12, hil308_13, hil308_14, hil308_17, hil308_18, hil308_19]; rfl) (by simp only [List.map_cons, List.map_nil, bv_length, List.length_cons, List.length_nil, List.length_replicate, hil308_2, hil308_3, hil308_4, hil308_7, hil308_8, hil308_9, hil308_12, hil308_13, hil308_14, hil308_17, hil308_18, hil308_19]; rfl)))
        refine s_alloc [1, 1, 16, 32, 32] hE hM zeroL36 rfl rfl ?_; clear hE a; intro a b6 w11 hE hM'
        clear hM; have hM := hM'; clear hM'
        have hsl324_2 : h.s1.2.2.1.length = 16 := hk.s1.2.1
        have hsl324_3 : h.s1.2.2.2.1.length = 32 := hk.s1.2.2.1
        have hsl324_4 : h.s1.2.2.2.2.length = 32 := hk.s1.2.2.2
        replace hM : Mem _ _ w11 [_, _, _] := hM.pick [0, 2, 3] rfl
        refine s_storeSegs 0 5 (vss := [[.bool h.s1.1], [.int .i64 h.s1.2.1], bv h.s1.2.2.1, bv h.s1.2.2.2.1, bv h.s1.2.2.2.2]) hE rfl rfl hM rfl sz36 (by simp only [List.take_succ_cons, List.take_zero, List.drop_zero, List.drop_succ_cons]; simp only [List.map_cons, List.map_nil, bv_length, List.length_cons, List.length_nil, List.length_replicate, hsl324_2, hsl324_3, hsl324_4]) (by decide) rfl (one_fl ⟨one1 rfl, one1 rfl, bv_one _, bv_one _, bv_one _, trivial⟩) rfl (by intro X h; cases h) ?_; intro w12 hM'; clear hM; have hM := hM'; clear hM'
        try simp only [List.take_zero, List.take_succ_cons, List.drop_zero, List.drop_succ_cons, List.take_nil, List.drop_nil, List.nil_append, List.append_nil, List.cons_append] at hM
        refine q_nil ?_
        replace hE : Env a 29 [(1, _), (2, _), (4, _), (6, _), (8, _), (9, _), (10, _), (14, _), (17, _), (18, _), (19, _), (23, _)] := hE.sel [1, 2, 4, 6, 8, 9, 10, 14, 17, 18, 19, 23] rfl
        refine hK26 _ _ ?_
        refine wp_seq_k (fun K27 hK27 => ?_)
        refine wp_plain [true, false, true] rfl rfl ?_
        refine s_loadN hE rfl (hM.get 0 rfl) row36 rfl (by intro X h; cases h) rfl ?_; clear hE a; intro a hE
        replace hE := hE.cast 21 rfl (show _ = Value.agg ([[.bool h.s1.1], [.int .i64 h.s1.2.1], bv h.s1.2.2.1, bv h.s1.2.2.2.1, bv h.s1.2.2.2.2] : List (List Value)).flatten.toArray from (by first | rfl | simp only [List.flatten_cons, List.flatten_nil, List.append_nil, List.append_assoc]))
        refine s_call hE rfl Try.call38 (slot_c h.s1.1 h.s1.2.1 h.s1.2.2.1 h.s1.2.2.2.1 h.s1.2.2.2.2 _ hk.s1.2.1 hk.s1.2.2.1 hk.s1.2.2.2 (by have hl_0sa : h.s1.2.2.1.length = 16 := hk.s1.2.1; have hl_0sd : h.s1.2.2.2.1.length = 32 := hk.s1.2.2.1; have hl_0st : h.s1.2.2.2.2.length = 32 := hk.s1.2.2.2; first | omega | assumption | (simp; done) | (simp; omega) | decide)) rfl ?_
        rintro e w13 ⟨rfl, hN⟩
        refine ⟨_, rfl, trivial, ?_⟩; clear hE a; intro a hE
        replace hM : Mem _ _ w13 [_, _, _] := hM.call0 hN trivial; clear hN
        refine s_not hE rfl rfl ?_; clear hE a; intro a hE
        refine q_nil ?_
        replace hE : Env a 29 [(1, _), (2, _), (4, _), (6, _), (8, _), (9, _), (10, _), (14, _), (17, _), (18, _), (19, _), (23, _)] := hE.sel [1, 2, 4, 6, 8, 9, 10, 14, 17, 18, 19, 23] rfl
        refine hK27 _ _ ?_
        refine hE.split 23 rfl (fun hb23' hE' => ?_) (fun hb23' hE' => ?_)
        · replace hE := hE'; clear hE'
          replace hb23' := not_true hb23'
          refine wp_cond_true (hE.eval rfl) ?_
          refine wp_seq_k (fun K28 hK28 => ?_)
          refine wp_plain [true] rfl rfl ?_
          refine s_assign hE rfl rfl ?_; clear hE a; intro a hE
          refine q_nil ?_
          refine hK28 _ _ ?_
          refine wp_ret ?_
          refine q_block_r ?_
          refine q_then_r ?_
          refine q_then_r ?_
          refine q_block_r ?_
          refine q_then_r ?_
          refine f_ret1 hE rfl rfl ?_
          exact ⟨(by simp [shapedB, hb14, hb14', hb23, hb23']; try (cases geoB h.m h.r <;> simp)), hM.pick [] rfl⟩
        · replace hE := hE'; clear hE'
          replace hb23' := not_false' hb23'
          refine wp_cond_false (hE.eval rfl) ?_
          refine wp_skip ?_
          refine q_block_n ?_
          refine hK25 _ _ ?_
          refine wp_plain [true, true] rfl rfl ?_
          refine s_bin hE rfl rfl (show Bin _ _ _ _ _ (.int .i64 2) from bin_add (by rw [wrap_i64 (by omega) (by omega)]; omega)) rfl ?_; clear hE a; intro a hE
          refine s_move hE rfl rfl ?_; clear hE a; intro a hE
          refine q_nil ?_
          replace hE : Env a 29 [(1, _), (2, _), (4, _), (6, _), (8, _), (9, _), (10, _), (14, _), (17, _), (18, _), (19, _), (23, _)] := hE.sel [1, 2, 4, 6, 8, 9, 10, 14, 17, 18, 19, 23] rfl
          replace hM : Mem _ _ w13 [_, _, _] := hM.pick [0, 1, 2] rfl
          refine q_then_n (c_rounds ?_)
          refine wp_seq_k (fun K28 hK28 => ?_)
          refine wp_plain [true] rfl rfl ?_
          refine s_bin hE rfl rfl bin_lss rfl ?_; clear hE a; intro a hE
          replace hE := hE.cast 19 rfl (show _ = Value.bool true from (congrArg Value.bool (by decide)))
          refine q_nil ?_
          refine hK28 _ _ ?_
          refine wp_seq_k (fun K29 hK29 => ?_)
          refine wp_cond_true (hE.eval rfl) ?_
          refine wp_skip ?_
          refine hK29 _ _ ?_
          refine wp_seq_k (fun K30 hK30 => ?_)
          refine wp_block ?_
          refine wp_seq_k (fun K31 hK31 => ?_)
          refine wp_plain [true, false, false] rfl rfl ?_
          have hil389_2 : h.s0.2.2.1.length = 16 := hk.s0.2.1
          have hil389_3 : h.s0.2.2.2.1.length = 32 := hk.s0.2.2.1
          have hil389_4 : h.s0.2.2.2.2.length = 32 := hk.s0.2.2.2
          have hil389_7 : h.s1.2.2.1.length = 16 := hk.s1.2.1
          have hil389_8 : h.s1.2.2.2.1.length = 32 := hk.s1.2.2.1
          have hil389_9 : h.s1.2.2.2.2.length = 32 := hk.s1.2.2.2
          have hil389_12 : h.s2.2.2.1.length = 16 := hk.s2.2.1
          have hil389_13 : h.s2.2.2.2.1.length = 32 := hk.s2.2.2.1
          have hil389_14 : h.s2.2.2.2.2.length = 32 := hk.s2.2.2.2
          have hil389_17 : h.s3.2.2.1.length = 16 := hk.s3.2.1
          have hil389_18 : h.s3.2.2.2.1.length = 32 := hk.s3.2.2.1
          have hil389_19 : h.s3.2.2.2.2.length = 32 := hk.s3.2.2.2
          refine s_indexAgg (j := 2) hE rfl rfl Try.underlying37 row36 rfl (by decide) rfl ?_; clear hE a; intro a hE
          replace hE := hE.cast 20 rfl (show _ = Value.agg ([[.bool h.s2.1], [.int .i64 h.s2.2.1], bv h.s2.2.2.1, bv h.s2.2.2.2.1, bv h.s2.2.2.2.2] : List (List Value)).flatten.toArray from congrArg (fun l : List Value => Value.agg l.toArray) (flat_seg (ps := [[.bool h.s0.1], [.int .i64 h.s0.2.1], bv h.s0.2.2.1, bv h.s0.2.2.2.1, bv h.s0.2.2.2.2, [.bool h.s1.1], [.int .i64 h.s1.2.1], bv h.s1.2.2.1, bv h.s1.2.2.2.1, bv h.s1.2.2.2.2]) (qs := [[.bool h.s2.1], [.int .i64 h.s2.2.1], bv h.s2.2.2.1, bv h.s2.2.2.2.1, bv h.s2.2.2.2.2]) (rs := [[.bool h.s3.1], [.int .i64 h.s3.2.1], bv h.s3.2.2.1, bv h.s3.2.2.2.1, bv h.s3.2.2.2.2]) (by simp only [List.map_cons, List.map_nil, bv_length, List.length_cons, List.length_nil, List.length_replicate, hil389_2, hil389_3, hil389_4, hil389_7, hil389_8, hil389_9, hil389_12, hil389_13, hil389_14, hil389_17, hil389_18, hil389_19]; rfl) (by simp only [List.map_cons, List.map_nil, bv_length, List.length_cons, List.length_nil, List.length_replicate, hil389_2, hil389_3, hil389_4, hil389_7, hil389_8, hil389_9, hil389_12, hil389_13, hil389_14, hil389_17, hil389_18, hil389_19]; rfl)))
          refine s_alloc [1, 1, 16, 32, 32] hE hM zeroL36 rfl rfl ?_; clear hE a; intro a b6 w14 hE hM'
          clear hM; have hM := hM'; clear hM'
          have hsl405_2 : h.s2.2.2.1.length = 16 := hk.s2.2.1
          have hsl405_3 : h.s2.2.2.2.1.length = 32 := hk.s2.2.2.1
          have hsl405_4 : h.s2.2.2.2.2.length = 32 := hk.s2.2.2.2
          replace hM : Mem _ _ w14 [_, _, _] := hM.pick [0, 2, 3] rfl
          refine s_storeSegs 0 5 (vss := [[.bool h.s2.1], [.int .i64 h.s2.2.1], bv h.s2.2.2.1, bv h.s2.2.2.2.1, bv h.s2.2.2.2.2]) hE rfl rfl hM rfl sz36 (by simp only [List.take_succ_cons, List.take_zero, List.drop_zero, List.drop_succ_cons]; simp only [List.map_cons, List.map_nil, bv_length, List.length_cons, List.length_nil, List.length_replicate, hsl405_2, hsl405_3, hsl405_4]) (by decide) rfl (one_fl ⟨one1 rfl, one1 rfl, bv_one _, bv_one _, bv_one _, trivial⟩) rfl (by intro X h; cases h) ?_; intro w15 hM'; clear hM; have hM := hM'; clear hM'
          try simp only [List.take_zero, List.take_succ_cons, List.drop_zero, List.drop_succ_cons, List.take_nil, List.drop_nil, List.nil_append, List.append_nil, List.cons_append] at hM
          refine q_nil ?_
          replace hE : Env a 29 [(1, _), (2, _), (4, _), (6, _), (8, _), (9, _), (10, _), (14, _), (17, _), (18, _), (19, _), (23, _)] := hE.sel [1, 2, 4, 6, 8, 9, 10, 14, 17, 18, 19, 23] rfl
          refine hK31 _ _ ?_
          refine wp_seq_k (fun K32 hK32 => ?_)
          refine wp_plain [true, false, true] rfl rfl ?_
          refine s_loadN hE rfl (hM.get 0 rfl) row36 rfl (by intro X h; cases h) rfl ?_; clear hE a; intro a hE
          replace hE := hE.cast 21 rfl (show _ = Value.agg ([[.bool h.s2.1], [.int .i64 h.s2.2.1], bv h.s2.2.2.1, bv h.s2.2.2.2.1, bv h.s2.2.2.2.2] : List (List Value)).flatten.toArray from (by first | rfl | simp only [List.flatten_cons, List.flatten_nil, List.append_nil, List.append_assoc]))
          refine s_call hE rfl Try.call38 (slot_c h.s2.1 h.s2.2.1 h.s2.2.2.1 h.s2.2.2.2.1 h.s2.2.2.2.2 _ hk.s2.2.1 hk.s2.2.2.1 hk.s2.2.2.2 (by have hl_0sa : h.s2.2.2.1.length = 16 := hk.s2.2.1; have hl_0sd : h.s2.2.2.2.1.length = 32 := hk.s2.2.2.1; have hl_0st : h.s2.2.2.2.2.length = 32 := hk.s2.2.2.2; first | omega | assumption | (simp; done) | (simp; omega) | decide)) rfl ?_
          rintro e w16 ⟨rfl, hN⟩
          refine ⟨_, rfl, trivial, ?_⟩; clear hE a; intro a hE
          replace hM : Mem _ _ w16 [_, _, _] := hM.call0 hN trivial; clear hN
          refine s_not hE rfl rfl ?_; clear hE a; intro a hE
          refine q_nil ?_
          replace hE : Env a 29 [(1, _), (2, _), (4, _), (6, _), (8, _), (9, _), (10, _), (14, _), (17, _), (18, _), (19, _), (23, _)] := hE.sel [1, 2, 4, 6, 8, 9, 10, 14, 17, 18, 19, 23] rfl
          refine hK32 _ _ ?_
          refine hE.split 23 rfl (fun hb23'' hE' => ?_) (fun hb23'' hE' => ?_)
          · replace hE := hE'; clear hE'
            replace hb23'' := not_true hb23''
            refine wp_cond_true (hE.eval rfl) ?_
            refine wp_seq_k (fun K33 hK33 => ?_)
            refine wp_plain [true] rfl rfl ?_
            refine s_assign hE rfl rfl ?_; clear hE a; intro a hE
            refine q_nil ?_
            refine hK33 _ _ ?_
            refine wp_ret ?_
            refine q_block_r ?_
            refine q_then_r ?_
            refine q_then_r ?_
            refine q_block_r ?_
            refine q_then_r ?_
            refine f_ret1 hE rfl rfl ?_
            exact ⟨(by simp [shapedB, hb14, hb14', hb23, hb23', hb23'']; try (cases geoB h.m h.r <;> simp)), hM.pick [] rfl⟩
          · replace hE := hE'; clear hE'
            replace hb23'' := not_false' hb23''
            refine wp_cond_false (hE.eval rfl) ?_
            refine wp_skip ?_
            refine q_block_n ?_
            refine hK30 _ _ ?_
            refine wp_plain [true, true] rfl rfl ?_
            refine s_bin hE rfl rfl (show Bin _ _ _ _ _ (.int .i64 3) from bin_add (by rw [wrap_i64 (by omega) (by omega)]; omega)) rfl ?_; clear hE a; intro a hE
            refine s_move hE rfl rfl ?_; clear hE a; intro a hE
            refine q_nil ?_
            replace hE : Env a 29 [(1, _), (2, _), (4, _), (6, _), (8, _), (9, _), (10, _), (14, _), (17, _), (18, _), (19, _), (23, _)] := hE.sel [1, 2, 4, 6, 8, 9, 10, 14, 17, 18, 19, 23] rfl
            replace hM : Mem _ _ w16 [_, _, _] := hM.pick [0, 1, 2] rfl
            refine q_then_n (c_rounds ?_)
            refine wp_seq_k (fun K33 hK33 => ?_)
            refine wp_plain [true] rfl rfl ?_
            refine s_bin hE rfl rfl bin_lss rfl ?_; clear hE a; intro a hE
            replace hE := hE.cast 19 rfl (show _ = Value.bool true from (congrArg Value.bool (by decide)))
            refine q_nil ?_
            refine hK33 _ _ ?_
            refine wp_seq_k (fun K34 hK34 => ?_)
            refine wp_cond_true (hE.eval rfl) ?_
            refine wp_skip ?_
            refine hK34 _ _ ?_
            refine wp_seq_k (fun K35 hK35 => ?_)
            refine wp_block ?_
            refine wp_seq_k (fun K36 hK36 => ?_)
            refine wp_plain [true, false, false] rfl rfl ?_
            have hil470_2 : h.s0.2.2.1.length = 16 := hk.s0.2.1
            have hil470_3 : h.s0.2.2.2.1.length = 32 := hk.s0.2.2.1
            have hil470_4 : h.s0.2.2.2.2.length = 32 := hk.s0.2.2.2
            have hil470_7 : h.s1.2.2.1.length = 16 := hk.s1.2.1
            have hil470_8 : h.s1.2.2.2.1.length = 32 := hk.s1.2.2.1
            have hil470_9 : h.s1.2.2.2.2.length = 32 := hk.s1.2.2.2
            have hil470_12 : h.s2.2.2.1.length = 16 := hk.s2.2.1
            have hil470_13 : h.s2.2.2.2.1.length = 32 := hk.s2.2.2.1
            have hil470_14 : h.s2.2.2.2.2.length = 32 := hk.s2.2.2.2
            have hil470_17 : h.s3.2.2.1.length = 16 := hk.s3.2.1
            have hil470_18 : h.s3.2.2.2.1.length = 32 := hk.s3.2.2.1
            have hil470_19 : h.s3.2.2.2.2.length = 32 := hk.s3.2.2.2
            refine s_indexAgg (j := 3) hE rfl rfl Try.underlying37 row36 rfl (by decide) rfl ?_; clear hE a; intro a hE
            replace hE := hE.cast 20 rfl (show _ = Value.agg ([[.bool h.s3.1], [.int .i64 h.s3.2.1], bv h.s3.2.2.1, bv h.s3.2.2.2.1, bv h.s3.2.2.2.2] : List (List Value)).flatten.toArray from congrArg (fun l : List Value => Value.agg l.toArray) (flat_seg (ps := [[.bool h.s0.1], [.int .i64 h.s0.2.1], bv h.s0.2.2.1, bv h.s0.2.2.2.1, bv h.s0.2.2.2.2, [.bool h.s1.1], [.int .i64 h.s1.2.1], bv h.s1.2.2.1, bv h.s1.2.2.2.1, bv h.s1.2.2.2.2, [.bool h.s2.1], [.int .i64 h.s2.2.1], bv h.s2.2.2.1, bv h.s2.2.2.2.1, bv h.s2.2.2.2.2]) (qs := [[.bool h.s3.1], [.int .i64 h.s3.2.1], bv h.s3.2.2.1, bv h.s3.2.2.2.1, bv h.s3.2.2.2.2]) (rs := []) (by simp only [List.map_cons, List.map_nil, bv_length, List.length_cons, List.length_nil, List.length_replicate, hil470_2, hil470_3, hil470_4, hil470_7, hil470_8, hil470_9, hil470_12, hil470_13, hil470_14, hil470_17, hil470_18, hil470_19]; rfl) (by simp only [List.map_cons, List.map_nil, bv_length, List.length_cons, List.length_nil, List.length_replicate, hil470_2, hil470_3, hil470_4, hil470_7, hil470_8, hil470_9, hil470_12, hil470_13, hil470_14, hil470_17, hil470_18, hil470_19]; rfl)))
            refine s_alloc [1, 1, 16, 32, 32] hE hM zeroL36 rfl rfl ?_; clear hE a; intro a b6 w17 hE hM'
            clear hM; have hM := hM'; clear hM'
            have hsl486_2 : h.s3.2.2.1.length = 16 := hk.s3.2.1
            have hsl486_3 : h.s3.2.2.2.1.length = 32 := hk.s3.2.2.1
            have hsl486_4 : h.s3.2.2.2.2.length = 32 := hk.s3.2.2.2
            replace hM : Mem _ _ w17 [_, _, _] := hM.pick [0, 2, 3] rfl
            refine s_storeSegs 0 5 (vss := [[.bool h.s3.1], [.int .i64 h.s3.2.1], bv h.s3.2.2.1, bv h.s3.2.2.2.1, bv h.s3.2.2.2.2]) hE rfl rfl hM rfl sz36 (by simp only [List.take_succ_cons, List.take_zero, List.drop_zero, List.drop_succ_cons]; simp only [List.map_cons, List.map_nil, bv_length, List.length_cons, List.length_nil, List.length_replicate, hsl486_2, hsl486_3, hsl486_4]) (by decide) rfl (one_fl ⟨one1 rfl, one1 rfl, bv_one _, bv_one _, bv_one _, trivial⟩) rfl (by intro X h; cases h) ?_; intro w18 hM'; clear hM; have hM := hM'; clear hM'
            try simp only [List.take_zero, List.take_succ_cons, List.drop_zero, List.drop_succ_cons, List.take_nil, List.drop_nil, List.nil_append, List.append_nil, List.cons_append] at hM
            refine q_nil ?_
            replace hE : Env a 29 [(1, _), (2, _), (4, _), (6, _), (8, _), (9, _), (10, _), (14, _), (17, _), (18, _), (19, _), (23, _)] := hE.sel [1, 2, 4, 6, 8, 9, 10, 14, 17, 18, 19, 23] rfl
            refine hK36 _ _ ?_
            refine wp_seq_k (fun K37 hK37 => ?_)
            refine wp_plain [true, false, true] rfl rfl ?_
            refine s_loadN hE rfl (hM.get 0 rfl) row36 rfl (by intro X h; cases h) rfl ?_; clear hE a; intro a hE
            replace hE := hE.cast 21 rfl (show _ = Value.agg ([[.bool h.s3.1], [.int .i64 h.s3.2.1], bv h.s3.2.2.1, bv h.s3.2.2.2.1, bv h.s3.2.2.2.2] : List (List Value)).flatten.toArray from (by first | rfl | simp only [List.flatten_cons, List.flatten_nil, List.append_nil, List.append_assoc]))
            refine s_call hE rfl Try.call38 (slot_c h.s3.1 h.s3.2.1 h.s3.2.2.1 h.s3.2.2.2.1 h.s3.2.2.2.2 _ hk.s3.2.1 hk.s3.2.2.1 hk.s3.2.2.2 (by have hl_0sa : h.s3.2.2.1.length = 16 := hk.s3.2.1; have hl_0sd : h.s3.2.2.2.1.length = 32 := hk.s3.2.2.1; have hl_0st : h.s3.2.2.2.2.length = 32 := hk.s3.2.2.2; first | omega | assumption | (simp; done) | (simp; omega) | decide)) rfl ?_
            rintro e w19 ⟨rfl, hN⟩
            refine ⟨_, rfl, trivial, ?_⟩; clear hE a; intro a hE
            replace hM : Mem _ _ w19 [_, _, _] := hM.call0 hN trivial; clear hN
            refine s_not hE rfl rfl ?_; clear hE a; intro a hE
            refine q_nil ?_
            replace hE : Env a 29 [(1, _), (2, _), (4, _), (6, _), (8, _), (9, _), (10, _), (14, _), (17, _), (18, _), (19, _), (23, _)] := hE.sel [1, 2, 4, 6, 8, 9, 10, 14, 17, 18, 19, 23] rfl
            refine hK37 _ _ ?_
            refine hE.split 23 rfl (fun hb23''' hE' => ?_) (fun hb23''' hE' => ?_)
            · replace hE := hE'; clear hE'
              replace hb23''' := not_true hb23'''
              refine wp_cond_true (hE.eval rfl) ?_
              refine wp_seq_k (fun K38 hK38 => ?_)
              refine wp_plain [true] rfl rfl ?_
              refine s_assign hE rfl rfl ?_; clear hE a; intro a hE
              refine q_nil ?_
              refine hK38 _ _ ?_
              refine wp_ret ?_
              refine q_block_r ?_
              refine q_then_r ?_
              refine q_then_r ?_
              refine q_block_r ?_
              refine q_then_r ?_
              refine f_ret1 hE rfl rfl ?_
              exact ⟨(by simp [shapedB, hb14, hb14', hb23, hb23', hb23'', hb23''']; try (cases geoB h.m h.r <;> simp)), hM.pick [] rfl⟩
            · replace hE := hE'; clear hE'
              replace hb23''' := not_false' hb23'''
              refine wp_cond_false (hE.eval rfl) ?_
              refine wp_skip ?_
              refine q_block_n ?_
              refine hK35 _ _ ?_
              refine wp_plain [true, true] rfl rfl ?_
              refine s_bin hE rfl rfl (show Bin _ _ _ _ _ (.int .i64 4) from bin_add (by rw [wrap_i64 (by omega) (by omega)]; omega)) rfl ?_; clear hE a; intro a hE
              refine s_move hE rfl rfl ?_; clear hE a; intro a hE
              refine q_nil ?_
              replace hE : Env a 29 [(1, _), (2, _), (4, _), (6, _), (8, _), (9, _), (10, _), (14, _), (17, _), (18, _), (19, _), (23, _)] := hE.sel [1, 2, 4, 6, 8, 9, 10, 14, 17, 18, 19, 23] rfl
              replace hM : Mem _ _ w19 [_, _, _] := hM.pick [0, 1, 2] rfl
              refine q_then_n (c_rounds ?_)
              refine wp_seq_k (fun K38 hK38 => ?_)
              refine wp_plain [true] rfl rfl ?_
              refine s_bin hE rfl rfl bin_lss rfl ?_; clear hE a; intro a hE
              replace hE := hE.cast 19 rfl (show _ = Value.bool false from (congrArg Value.bool (by decide)))
              refine q_nil ?_
              refine hK38 _ _ ?_
              refine wp_seq_k (fun K39 hK39 => ?_)
              refine wp_cond_false (hE.eval rfl) ?_
              refine wp_exit ?_
              refine q_then_e ?_
              refine q_then_e ?_
              refine q_block_x ?_
              refine hK16 _ _ ?_
              refine wp_seq_k (fun K40 hK40 => ?_)
              refine wp_plain [true, true, false, true, true] rfl rfl ?_
              refine s_fieldAddr hE rfl fo39_0 rfl ?_; clear hE a; intro a hE
              refine s_loadN hE rfl (hM.get 2 rfl) row23 rfl (by intro X h; cases h) rfl ?_; clear hE a; intro a hE
              replace hE := hE.cast 26 rfl (show _ = Value.agg ([[.int .i64 h.m], [.int .i64 h.r]] : List (List Value)).flatten.toArray from (by first | rfl | simp only [List.flatten_cons, List.flatten_nil, List.append_nil, List.append_assoc]))
              refine s_call hE rfl Try.call39 (geocheck_c h.m h.r _ ) rfl ?_
              rintro e w20 ⟨rfl, hN⟩
              refine ⟨_, rfl, trivial, ?_⟩; clear hE a; intro a hE
              replace hM : Mem _ _ w20 [_, _, _] := hM.call0 hN trivial; clear hN
              refine s_bin hE rfl rfl bin_eql rfl ?_; clear hE a; intro a hE
              refine s_assign hE rfl rfl ?_; clear hE a; intro a hE
              refine q_nil ?_
              replace hE : Env a 29 [(1, _), (2, _), (4, _), (6, _), (8, _), (9, _), (10, _), (14, _), (17, _), (18, _), (19, _), (23, _)] := hE.sel [1, 2, 4, 6, 8, 9, 10, 14, 17, 18, 19, 23] rfl
              refine hK40 _ _ ?_
              refine wp_ret ?_
              refine f_ret1 hE rfl rfl ?_
              exact ⟨(by simp [shapedB, hb14, hb14', hb23, hb23', hb23'', hb23''']; try (cases geoB h.m h.r <;> simp)), hM.pick [] rfl⟩
theorem long_c (h : Hd) (w : World) (hk : OkHd h) : Calls Try.prog 24 #[.agg ([[.int .i64 h.m], [.int .i64 h.r], [.bool h.v0.1], [.int .u64 ((h.v0.2.1 : Nat) : Int)], bv h.v0.2.2.1, bv h.v0.2.2.2, [.bool h.v1.1], [.int .u64 ((h.v1.2.1 : Nat) : Int)], bv h.v1.2.2.1, bv h.v1.2.2.2, [.bool h.s0.1], [.int .i64 h.s0.2.1], bv h.s0.2.2.1, bv h.s0.2.2.2.1, bv h.s0.2.2.2.2, [.bool h.s1.1], [.int .i64 h.s1.2.1], bv h.s1.2.2.1, bv h.s1.2.2.2.1, bv h.s1.2.2.2.2, [.bool h.s2.1], [.int .i64 h.s2.2.1], bv h.s2.2.2.1, bv h.s2.2.2.2.1, bv h.s2.2.2.2.2, [.bool h.s3.1], [.int .i64 h.s3.2.1], bv h.s3.2.2.1, bv h.s3.2.2.2.1, bv h.s3.2.2.2.2] : List (List Value)).flatten.toArray] w fun e w' => e = .returned (.bool (longB h)) ∧ Mem w [] w' [] := by
  have hi0 := hk.s0.1
  have hi1 := hk.s1.1
  have hi2 := hk.s2.1
  have hi3 := hk.s3.1
  have hn0 := hk.v0.1
  have hn1 := hk.v1.1
  have hM := Mem.start0 w
  refine f_enter 14 Try.func24 rfl rfl rfl ?_
  intro a hE
  replace hE : Env a 14 [(0, _)] := hE
  refine wp_seq_k (fun K1 hK1 => ?_)
  refine wp_plain [false, true] rfl rfl ?_
  have hbl1_4 : h.v0.2.2.1.length = 32 := hk.v0.2.1
  have hbl1_5 : h.v0.2.2.2.length = 32 := hk.v0.2.2
  have hbl1_8 : h.v1.2.2.1.length = 32 := hk.v1.2.1
  have hbl1_9 : h.v1.2.2.2.length = 32 := hk.v1.2.2
  have hbl1_12 : h.s0.2.2.1.length = 16 := hk.s0.2.1
  have hbl1_13 : h.s0.2.2.2.1.length = 32 := hk.s0.2.2.1
  have hbl1_14 : h.s0.2.2.2.2.length = 32 := hk.s0.2.2.2
  have hbl1_17 : h.s1.2.2.1.length = 16 := hk.s1.2.1
  have hbl1_18 : h.s1.2.2.2.1.length = 32 := hk.s1.2.2.1
  have hbl1_19 : h.s1.2.2.2.2.length = 32 := hk.s1.2.2.2
  have hbl1_22 : h.s2.2.2.1.length = 16 := hk.s2.2.1
  have hbl1_23 : h.s2.2.2.2.1.length = 32 := hk.s2.2.2.1
  have hbl1_24 : h.s2.2.2.2.2.length = 32 := hk.s2.2.2.2
  have hbl1_27 : h.s3.2.2.1.length = 16 := hk.s3.2.1
  have hbl1_28 : h.s3.2.2.2.1.length = 32 := hk.s3.2.2.1
  have hbl1_29 : h.s3.2.2.2.2.length = 32 := hk.s3.2.2.2
  refine s_box (ss := [[.int .i64 h.m], [.int .i64 h.r], [.bool h.v0.1], [.int .u64 ((h.v0.2.1 : Nat) : Int)], bv h.v0.2.2.1, bv h.v0.2.2.2, [.bool h.v1.1], [.int .u64 ((h.v1.2.1 : Nat) : Int)], bv h.v1.2.2.1, bv h.v1.2.2.2, [.bool h.s0.1], [.int .i64 h.s0.2.1], bv h.s0.2.2.1, bv h.s0.2.2.2.1, bv h.s0.2.2.2.2, [.bool h.s1.1], [.int .i64 h.s1.2.1], bv h.s1.2.2.1, bv h.s1.2.2.2.1, bv h.s1.2.2.2.2, [.bool h.s2.1], [.int .i64 h.s2.2.1], bv h.s2.2.2.1, bv h.s2.2.2.2.1, bv h.s2.2.2.2.2, [.bool h.s3.1], [.int .i64 h.s3.2.1], bv h.s3.2.2.1, bv h.s3.2.2.2.1, bv h.s3.2.2.2.2]) [1, 1, 1, 1, 32, 32, 1, 1, 32, 32, 1, 1, 16, 32, 32, 1, 1, 16, 32, 32, 1, 1, 16, 32, 32, 1, 1, 16, 32, 32] hE hM rfl rfl (by simp only [List.map_cons, List.map_nil, bv_length, List.length_cons, List.length_nil, List.length_replicate, hbl1_4, hbl1_5, hbl1_8, hbl1_9, hbl1_12, hbl1_13, hbl1_14, hbl1_17, hbl1_18, hbl1_19, hbl1_22, hbl1_23, hbl1_24, hbl1_27, hbl1_28, hbl1_29]) rfl ?_; clear hE a; intro a b1 w1 hE hM'
  clear hM; have hM := hM'; clear hM'
  refine s_assign hE rfl rfl ?_; clear hE a; intro a hE
  refine q_nil ?_
  replace hE : Env a 14 [(1, _), (2, _)] := hE.sel [1, 2] rfl
  refine hK1 _ _ ?_
  refine wp_seq_k (fun K2 hK2 => ?_)
  refine wp_seq_k (fun K3 hK3 => ?_)
  refine wp_plain [true, true, true] rfl rfl ?_
  refine s_fieldAddr hE rfl fo39_2 rfl ?_; clear hE a; intro a hE
  refine s_loadN hE rfl (hM.get 0 rfl) row37 rfl (by intro X h; cases h) rfl ?_; clear hE a; intro a hE
  replace hE := hE.cast 6 rfl (show _ = Value.agg ([[.bool h.s0.1], [.int .i64 h.s0.2.1], bv h.s0.2.2.1, bv h.s0.2.2.2.1, bv h.s0.2.2.2.2, [.bool h.s1.1], [.int .i64 h.s1.2.1], bv h.s1.2.2.1, bv h.s1.2.2.2.1, bv h.s1.2.2.2.2, [.bool h.s2.1], [.int .i64 h.s2.2.1], bv h.s2.2.2.1, bv h.s2.2.2.2.1, bv h.s2.2.2.2.2, [.bool h.s3.1], [.int .i64 h.s3.2.1], bv h.s3.2.2.1, bv h.s3.2.2.2.1, bv h.s3.2.2.2.2] : List (List Value)).flatten.toArray from (by first | rfl | simp only [List.flatten_cons, List.flatten_nil, List.append_nil, List.append_assoc]))
  refine s_move hE rfl rfl ?_; clear hE a; intro a hE
  refine q_nil ?_
  replace hE : Env a 14 [(2, _), (6, _), (7, _)] := hE.sel [2, 6, 7] rfl
  refine hK3 _ _ ?_
  refine wp_block ?_
  refine wp_loop_rounds 5 (c_rounds ?_)
  refine wp_seq_k (fun K4 hK4 => ?_)
  refine wp_plain [true] rfl rfl ?_
  refine s_bin hE rfl rfl bin_lss rfl ?_; clear hE a; intro a hE
  replace hE := hE.cast 8 rfl (show _ = Value.bool true from (congrArg Value.bool (by decide)))
  refine q_nil ?_
  refine hK4 _ _ ?_
  refine wp_seq_k (fun K5 hK5 => ?_)
  refine wp_cond_true (hE.eval rfl) ?_
  refine wp_skip ?_
  refine hK5 _ _ ?_
  refine wp_seq_k (fun K6 hK6 => ?_)
  refine wp_block ?_
  refine wp_seq_k (fun K7 hK7 => ?_)
  refine wp_plain [true, false, false] rfl rfl ?_
  have hil60_2 : h.s0.2.2.1.length = 16 := hk.s0.2.1
  have hil60_3 : h.s0.2.2.2.1.length = 32 := hk.s0.2.2.1
  have hil60_4 : h.s0.2.2.2.2.length = 32 := hk.s0.2.2.2
  have hil60_7 : h.s1.2.2.1.length = 16 := hk.s1.2.1
  have hil60_8 : h.s1.2.2.2.1.length = 32 := hk.s1.2.2.1
  have hil60_9 : h.s1.2.2.2.2.length = 32 := hk.s1.2.2.2
  have hil60_12 : h.s2.2.2.1.length = 16 := hk.s2.2.1
  have hil60_13 : h.s2.2.2.2.1.length = 32 := hk.s2.2.2.1
  have hil60_14 : h.s2.2.2.2.2.length = 32 := hk.s2.2.2.2
  have hil60_17 : h.s3.2.2.1.length = 16 := hk.s3.2.1
  have hil60_18 : h.s3.2.2.2.1.length = 32 := hk.s3.2.2.1
  have hil60_19 : h.s3.2.2.2.2.length = 32 := hk.s3.2.2.2
  refine s_indexAgg (j := 0) hE rfl rfl Try.underlying37 row36 rfl (by decide) rfl ?_; clear hE a; intro a hE
  replace hE := hE.cast 9 rfl (show _ = Value.agg ([[.bool h.s0.1], [.int .i64 h.s0.2.1], bv h.s0.2.2.1, bv h.s0.2.2.2.1, bv h.s0.2.2.2.2] : List (List Value)).flatten.toArray from congrArg (fun l : List Value => Value.agg l.toArray) (flat_seg (ps := []) (qs := [[.bool h.s0.1], [.int .i64 h.s0.2.1], bv h.s0.2.2.1, bv h.s0.2.2.2.1, bv h.s0.2.2.2.2]) (rs := [[.bool h.s1.1], [.int .i64 h.s1.2.1], bv h.s1.2.2.1, bv h.s1.2.2.2.1, bv h.s1.2.2.2.2, [.bool h.s2.1], [.int .i64 h.s2.2.1], bv h.s2.2.2.1, bv h.s2.2.2.2.1, bv h.s2.2.2.2.2, [.bool h.s3.1], [.int .i64 h.s3.2.1], bv h.s3.2.2.1, bv h.s3.2.2.2.1, bv h.s3.2.2.2.2]) (by simp only [List.map_cons, List.map_nil, bv_length, List.length_cons, List.length_nil, List.length_replicate, hil60_2, hil60_3, hil60_4, hil60_7, hil60_8, hil60_9, hil60_12, hil60_13, hil60_14, hil60_17, hil60_18, hil60_19]; rfl) (by simp only [List.map_cons, List.map_nil, bv_length, List.length_cons, List.length_nil, List.length_replicate, hil60_2, hil60_3, hil60_4, hil60_7, hil60_8, hil60_9, hil60_12, hil60_13, hil60_14, hil60_17, hil60_18, hil60_19]; rfl)))
  refine s_alloc [1, 1, 16, 32, 32] hE hM zeroL36 rfl rfl ?_; clear hE a; intro a b4 w2 hE hM'
  clear hM; have hM := hM'; clear hM'
  have hsl76_2 : h.s0.2.2.1.length = 16 := hk.s0.2.1
  have hsl76_3 : h.s0.2.2.2.1.length = 32 := hk.s0.2.2.1
  have hsl76_4 : h.s0.2.2.2.2.length = 32 := hk.s0.2.2.2
  refine s_storeSegs 0 5 (vss := [[.bool h.s0.1], [.int .i64 h.s0.2.1], bv h.s0.2.2.1, bv h.s0.2.2.2.1, bv h.s0.2.2.2.2]) hE rfl rfl hM rfl sz36 (by simp only [List.take_succ_cons, List.take_zero, List.drop_zero, List.drop_succ_cons]; simp only [List.map_cons, List.map_nil, bv_length, List.length_cons, List.length_nil, List.length_replicate, hsl76_2, hsl76_3, hsl76_4]) (by decide) rfl (one_fl ⟨one1 rfl, one1 rfl, bv_one _, bv_one _, bv_one _, trivial⟩) rfl (by intro X h; cases h) ?_; intro w3 hM'; clear hM; have hM := hM'; clear hM'
  try simp only [List.take_zero, List.take_succ_cons, List.drop_zero, List.drop_succ_cons, List.take_nil, List.drop_nil, List.nil_append, List.append_nil, List.cons_append] at hM
  refine q_nil ?_
  replace hE : Env a 14 [(2, _), (4, _), (6, _), (7, _), (8, _)] := hE.sel [2, 4, 6, 7, 8] rfl
  refine hK7 _ _ ?_
  refine wp_seq_k (fun K8 hK8 => ?_)
  refine wp_plain [true, true, true] rfl rfl ?_
  refine s_fieldAddr hE rfl fo36_1 rfl ?_; clear hE a; intro a hE
  refine s_load1 hE rfl (hM.get 0 rfl) rfl one3 (by intro X h; cases h) rfl ?_; clear hE a; intro a hE
  refine s_bin hE rfl rfl bin_gtr rfl ?_; clear hE a; intro a hE
  refine q_nil ?_
  replace hE : Env a 14 [(2, _), (4, _), (6, _), (7, _), (8, _), (12, _)] := hE.sel [2, 4, 6, 7, 8, 12] rfl
  refine hK8 _ _ ?_
  refine hE.split 12 rfl (fun hb12 hE' => ?_) (fun hb12 hE' => ?_)
  · replace hE := hE'; clear hE'
    replace hb12 := of_decide_eq_true hb12
    refine wp_cond_true (hE.eval rfl) ?_
    refine wp_seq_k (fun K9 hK9 => ?_)
    refine wp_plain [true] rfl rfl ?_
    refine s_assign hE rfl rfl ?_; clear hE a; intro a hE
    refine q_nil ?_
    refine hK9 _ _ ?_
    refine wp_ret ?_
    refine q_block_r ?_
    refine q_then_r ?_
    refine q_then_r ?_
    refine q_block_r ?_
    refine q_then_r ?_
    refine f_ret1 hE rfl rfl ?_
    exact ⟨(by simp [longB, hb12] <;> omega), hM.pick [] rfl⟩
  · replace hE := hE'; clear hE'
    replace hb12 := of_decide_eq_false hb12
    refine wp_cond_false (hE.eval rfl) ?_
    refine wp_skip ?_
    refine q_block_n ?_
    refine hK6 _ _ ?_
    refine wp_plain [true, true] rfl rfl ?_
    refine s_bin hE rfl rfl (show Bin _ _ _ _ _ (.int .i64 1) from bin_add (by rw [wrap_i64 (by omega) (by omega)]; omega)) rfl ?_; clear hE a; intro a hE
    refine s_move hE rfl rfl ?_; clear hE a; intro a hE
    refine q_nil ?_
    replace hE : Env a 14 [(2, _), (4, _), (6, _), (7, _), (8, _), (12, _)] := hE.sel [2, 4, 6, 7, 8, 12] rfl
    replace hM : Mem _ _ w3 [_, _] := hM.pick [0, 1] rfl
    refine q_then_n (c_rounds ?_)
    refine wp_seq_k (fun K9 hK9 => ?_)
    refine wp_plain [true] rfl rfl ?_
    refine s_bin hE rfl rfl bin_lss rfl ?_; clear hE a; intro a hE
    replace hE := hE.cast 8 rfl (show _ = Value.bool true from (congrArg Value.bool (by decide)))
    refine q_nil ?_
    refine hK9 _ _ ?_
    refine wp_seq_k (fun K10 hK10 => ?_)
    refine wp_cond_true (hE.eval rfl) ?_
    refine wp_skip ?_
    refine hK10 _ _ ?_
    refine wp_seq_k (fun K11 hK11 => ?_)
    refine wp_block ?_
    refine wp_seq_k (fun K12 hK12 => ?_)
    refine wp_plain [true, false, false] rfl rfl ?_
    have hil136_2 : h.s0.2.2.1.length = 16 := hk.s0.2.1
    have hil136_3 : h.s0.2.2.2.1.length = 32 := hk.s0.2.2.1
    have hil136_4 : h.s0.2.2.2.2.length = 32 := hk.s0.2.2.2
    have hil136_7 : h.s1.2.2.1.length = 16 := hk.s1.2.1
    have hil136_8 : h.s1.2.2.2.1.length = 32 := hk.s1.2.2.1
    have hil136_9 : h.s1.2.2.2.2.length = 32 := hk.s1.2.2.2
    have hil136_12 : h.s2.2.2.1.length = 16 := hk.s2.2.1
    have hil136_13 : h.s2.2.2.2.1.length = 32 := hk.s2.2.2.1
    have hil136_14 : h.s2.2.2.2.2.length = 32 := hk.s2.2.2.2
    have hil136_17 : h.s3.2.2.1.length = 16 := hk.s3.2.1
    have hil136_18 : h.s3.2.2.2.1.length = 32 := hk.s3.2.2.1
    have hil136_19 : h.s3.2.2.2.2.length = 32 := hk.s3.2.2.2
    refine s_indexAgg (j := 1) hE rfl rfl Try.underlying37 row36 rfl (by decide) rfl ?_; clear hE a; intro a hE
    replace hE := hE.cast 9 rfl (show _ = Value.agg ([[.bool h.s1.1], [.int .i64 h.s1.2.1], bv h.s1.2.2.1, bv h.s1.2.2.2.1, bv h.s1.2.2.2.2] : List (List Value)).flatten.toArray from congrArg (fun l : List Value => Value.agg l.toArray) (flat_seg (ps := [[.bool h.s0.1], [.int .i64 h.s0.2.1], bv h.s0.2.2.1, bv h.s0.2.2.2.1, bv h.s0.2.2.2.2]) (qs := [[.bool h.s1.1], [.int .i64 h.s1.2.1], bv h.s1.2.2.1, bv h.s1.2.2.2.1, bv h.s1.2.2.2.2]) (rs := [[.bool h.s2.1], [.int .i64 h.s2.2.1], bv h.s2.2.2.1, bv h.s2.2.2.2.1, bv h.s2.2.2.2.2, [.bool h.s3.1], [.int .i64 h.s3.2.1], bv h.s3.2.2.1, bv h.s3.2.2.2.1, bv h.s3.2.2.2.2]) (by simp only [List.map_cons, List.map_nil, bv_length, List.length_cons, List.length_nil, List.length_replicate, hil136_2, hil136_3, hil136_4, hil136_7, hil136_8, hil136_9, hil136_12, hil136_13, hil136_14, hil136_17, hil136_18, hil136_19]; rfl) (by simp only [List.map_cons, List.map_nil, bv_length, List.length_cons, List.length_nil, List.length_replicate, hil136_2, hil136_3, hil136_4, hil136_7, hil136_8, hil136_9, hil136_12, hil136_13, hil136_14, hil136_17, hil136_18, hil136_19]; rfl)))
    refine s_alloc [1, 1, 16, 32, 32] hE hM zeroL36 rfl rfl ?_; clear hE a; intro a b4 w4 hE hM'
    clear hM; have hM := hM'; clear hM'
    have hsl152_2 : h.s1.2.2.1.length = 16 := hk.s1.2.1
    have hsl152_3 : h.s1.2.2.2.1.length = 32 := hk.s1.2.2.1
    have hsl152_4 : h.s1.2.2.2.2.length = 32 := hk.s1.2.2.2
    replace hM : Mem _ _ w4 [_, _] := hM.pick [0, 2] rfl
    refine s_storeSegs 0 5 (vss := [[.bool h.s1.1], [.int .i64 h.s1.2.1], bv h.s1.2.2.1, bv h.s1.2.2.2.1, bv h.s1.2.2.2.2]) hE rfl rfl hM rfl sz36 (by simp only [List.take_succ_cons, List.take_zero, List.drop_zero, List.drop_succ_cons]; simp only [List.map_cons, List.map_nil, bv_length, List.length_cons, List.length_nil, List.length_replicate, hsl152_2, hsl152_3, hsl152_4]) (by decide) rfl (one_fl ⟨one1 rfl, one1 rfl, bv_one _, bv_one _, bv_one _, trivial⟩) rfl (by intro X h; cases h) ?_; intro w5 hM'; clear hM; have hM := hM'; clear hM'
    try simp only [List.take_zero, List.take_succ_cons, List.drop_zero, List.drop_succ_cons, List.take_nil, List.drop_nil, List.nil_append, List.append_nil, List.cons_append] at hM
    refine q_nil ?_
    replace hE : Env a 14 [(2, _), (4, _), (6, _), (7, _), (8, _), (12, _)] := hE.sel [2, 4, 6, 7, 8, 12] rfl
    refine hK12 _ _ ?_
    refine wp_seq_k (fun K13 hK13 => ?_)
    refine wp_plain [true, true, true] rfl rfl ?_
    refine s_fieldAddr hE rfl fo36_1 rfl ?_; clear hE a; intro a hE
    refine s_load1 hE rfl (hM.get 0 rfl) rfl one3 (by intro X h; cases h) rfl ?_; clear hE a; intro a hE
    refine s_bin hE rfl rfl bin_gtr rfl ?_; clear hE a; intro a hE
    refine q_nil ?_
    replace hE : Env a 14 [(2, _), (4, _), (6, _), (7, _), (8, _), (12, _)] := hE.sel [2, 4, 6, 7, 8, 12] rfl
    refine hK13 _ _ ?_
    refine hE.split 12 rfl (fun hb12' hE' => ?_) (fun hb12' hE' => ?_)
    · replace hE := hE'; clear hE'
      replace hb12' := of_decide_eq_true hb12'
      refine wp_cond_true (hE.eval rfl) ?_
      refine wp_seq_k (fun K14 hK14 => ?_)
      refine wp_plain [true] rfl rfl ?_
      refine s_assign hE rfl rfl ?_; clear hE a; intro a hE
      refine q_nil ?_
      refine hK14 _ _ ?_
      refine wp_ret ?_
      refine q_block_r ?_
      refine q_then_r ?_
      refine q_then_r ?_
      refine q_block_r ?_
      refine q_then_r ?_
      refine f_ret1 hE rfl rfl ?_
      exact ⟨(by simp [longB, hb12, hb12'] <;> omega), hM.pick [] rfl⟩
    · replace hE := hE'; clear hE'
      replace hb12' := of_decide_eq_false hb12'
      refine wp_cond_false (hE.eval rfl) ?_
      refine wp_skip ?_
      refine q_block_n ?_
      refine hK11 _ _ ?_
      refine wp_plain [true, true] rfl rfl ?_
      refine s_bin hE rfl rfl (show Bin _ _ _ _ _ (.int .i64 2) from bin_add (by rw [wrap_i64 (by omega) (by omega)]; omega)) rfl ?_; clear hE a; intro a hE
      refine s_move hE rfl rfl ?_; clear hE a; intro a hE
      refine q_nil ?_
      replace hE : Env a 14 [(2, _), (4, _), (6, _), (7, _), (8, _), (12, _)] := hE.sel [2, 4, 6, 7, 8, 12] rfl
      replace hM : Mem _ _ w5 [_, _] := hM.pick [0, 1] rfl
      refine q_then_n (c_rounds ?_)
      refine wp_seq_k (fun K14 hK14 => ?_)
      refine wp_plain [true] rfl rfl ?_
      refine s_bin hE rfl rfl bin_lss rfl ?_; clear hE a; intro a hE
      replace hE := hE.cast 8 rfl (show _ = Value.bool true from (congrArg Value.bool (by decide)))
      refine q_nil ?_
      refine hK14 _ _ ?_
      refine wp_seq_k (fun K15 hK15 => ?_)
      refine wp_cond_true (hE.eval rfl) ?_
      refine wp_skip ?_
      refine hK15 _ _ ?_
      refine wp_seq_k (fun K16 hK16 => ?_)
      refine wp_block ?_
      refine wp_seq_k (fun K17 hK17 => ?_)
      refine wp_plain [true, false, false] rfl rfl ?_
      have hil213_2 : h.s0.2.2.1.length = 16 := hk.s0.2.1
      have hil213_3 : h.s0.2.2.2.1.length = 32 := hk.s0.2.2.1
      have hil213_4 : h.s0.2.2.2.2.length = 32 := hk.s0.2.2.2
      have hil213_7 : h.s1.2.2.1.length = 16 := hk.s1.2.1
      have hil213_8 : h.s1.2.2.2.1.length = 32 := hk.s1.2.2.1
      have hil213_9 : h.s1.2.2.2.2.length = 32 := hk.s1.2.2.2
      have hil213_12 : h.s2.2.2.1.length = 16 := hk.s2.2.1
      have hil213_13 : h.s2.2.2.2.1.length = 32 := hk.s2.2.2.1
      have hil213_14 : h.s2.2.2.2.2.length = 32 := hk.s2.2.2.2
      have hil213_17 : h.s3.2.2.1.length = 16 := hk.s3.2.1
      have hil213_18 : h.s3.2.2.2.1.length = 32 := hk.s3.2.2.1
      have hil213_19 : h.s3.2.2.2.2.length = 32 := hk.s3.2.2.2
      refine s_indexAgg (j := 2) hE rfl rfl Try.underlying37 row36 rfl (by decide) rfl ?_; clear hE a; intro a hE
      replace hE := hE.cast 9 rfl (show _ = Value.agg ([[.bool h.s2.1], [.int .i64 h.s2.2.1], bv h.s2.2.2.1, bv h.s2.2.2.2.1, bv h.s2.2.2.2.2] : List (List Value)).flatten.toArray from congrArg (fun l : List Value => Value.agg l.toArray) (flat_seg (ps := [[.bool h.s0.1], [.int .i64 h.s0.2.1], bv h.s0.2.2.1, bv h.s0.2.2.2.1, bv h.s0.2.2.2.2, [.bool h.s1.1], [.int .i64 h.s1.2.1], bv h.s1.2.2.1, bv h.s1.2.2.2.1, bv h.s1.2.2.2.2]) (qs := [[.bool h.s2.1], [.int .i64 h.s2.2.1], bv h.s2.2.2.1, bv h.s2.2.2.2.1, bv h.s2.2.2.2.2]) (rs := [[.bool h.s3.1], [.int .i64 h.s3.2.1], bv h.s3.2.2.1, bv h.s3.2.2.2.1, bv h.s3.2.2.2.2]) (by simp only [List.map_cons, List.map_nil, bv_length, List.length_cons, List.length_nil, List.length_replicate, hil213_2, hil213_3, hil213_4, hil213_7, hil213_8, hil213_9, hil213_12, hil213_13, hil213_14, hil213_17, hil213_18, hil213_19]; rfl) (by simp only [List.map_cons, List.map_nil, bv_length, List.length_cons, List.length_nil, List.length_replicate, hil213_2, hil213_3, hil213_4, hil213_7, hil213_8, hil213_9, hil213_12, hil213_13, hil213_14, hil213_17, hil213_18, hil213_19]; rfl)))
      refine s_alloc [1, 1, 16, 32, 32] hE hM zeroL36 rfl rfl ?_; clear hE a; intro a b4 w6 hE hM'
      clear hM; have hM := hM'; clear hM'
      have hsl229_2 : h.s2.2.2.1.length = 16 := hk.s2.2.1
      have hsl229_3 : h.s2.2.2.2.1.length = 32 := hk.s2.2.2.1
      have hsl229_4 : h.s2.2.2.2.2.length = 32 := hk.s2.2.2.2
      replace hM : Mem _ _ w6 [_, _] := hM.pick [0, 2] rfl
      refine s_storeSegs 0 5 (vss := [[.bool h.s2.1], [.int .i64 h.s2.2.1], bv h.s2.2.2.1, bv h.s2.2.2.2.1, bv h.s2.2.2.2.2]) hE rfl rfl hM rfl sz36 (by simp only [List.take_succ_cons, List.take_zero, List.drop_zero, List.drop_succ_cons]; simp only [List.map_cons, List.map_nil, bv_length, List.length_cons, List.length_nil, List.length_replicate, hsl229_2, hsl229_3, hsl229_4]) (by decide) rfl (one_fl ⟨one1 rfl, one1 rfl, bv_one _, bv_one _, bv_one _, trivial⟩) rfl (by intro X h; cases h) ?_; intro w7 hM'; clear hM; have hM := hM'; clear hM'
      try simp only [List.take_zero, List.take_succ_cons, List.drop_zero, List.drop_succ_cons, List.take_nil, List.drop_nil, List.nil_append, List.append_nil, List.cons_append] at hM
      refine q_nil ?_
      replace hE : Env a 14 [(2, _), (4, _), (6, _), (7, _), (8, _), (12, _)] := hE.sel [2, 4, 6, 7, 8, 12] rfl
      refine hK17 _ _ ?_
      refine wp_seq_k (fun K18 hK18 => ?_)
      refine wp_plain [true, true, true] rfl rfl ?_
      refine s_fieldAddr hE rfl fo36_1 rfl ?_; clear hE a; intro a hE
      refine s_load1 hE rfl (hM.get 0 rfl) rfl one3 (by intro X h; cases h) rfl ?_; clear hE a; intro a hE
      refine s_bin hE rfl rfl bin_gtr rfl ?_; clear hE a; intro a hE
      refine q_nil ?_
      replace hE : Env a 14 [(2, _), (4, _), (6, _), (7, _), (8, _), (12, _)] := hE.sel [2, 4, 6, 7, 8, 12] rfl
      refine hK18 _ _ ?_
      refine hE.split 12 rfl (fun hb12'' hE' => ?_) (fun hb12'' hE' => ?_)
      · replace hE := hE'; clear hE'
        replace hb12'' := of_decide_eq_true hb12''
        refine wp_cond_true (hE.eval rfl) ?_
        refine wp_seq_k (fun K19 hK19 => ?_)
        refine wp_plain [true] rfl rfl ?_
        refine s_assign hE rfl rfl ?_; clear hE a; intro a hE
        refine q_nil ?_
        refine hK19 _ _ ?_
        refine wp_ret ?_
        refine q_block_r ?_
        refine q_then_r ?_
        refine q_then_r ?_
        refine q_block_r ?_
        refine q_then_r ?_
        refine f_ret1 hE rfl rfl ?_
        exact ⟨(by simp [longB, hb12, hb12', hb12''] <;> omega), hM.pick [] rfl⟩
      · replace hE := hE'; clear hE'
        replace hb12'' := of_decide_eq_false hb12''
        refine wp_cond_false (hE.eval rfl) ?_
        refine wp_skip ?_
        refine q_block_n ?_
        refine hK16 _ _ ?_
        refine wp_plain [true, true] rfl rfl ?_
        refine s_bin hE rfl rfl (show Bin _ _ _ _ _ (.int .i64 3) from bin_add (by rw [wrap_i64 (by omega) (by omega)]; omega)) rfl ?_; clear hE a; intro a hE
        refine s_move hE rfl rfl ?_; clear hE a; intro a hE
        refine q_nil ?_
        replace hE : Env a 14 [(2, _), (4, _), (6, _), (7, _), (8, _), (12, _)] := hE.sel [2, 4, 6, 7, 8, 12] rfl
        replace hM : Mem _ _ w7 [_, _] := hM.pick [0, 1] rfl
        refine q_then_n (c_rounds ?_)
        refine wp_seq_k (fun K19 hK19 => ?_)
        refine wp_plain [true] rfl rfl ?_
        refine s_bin hE rfl rfl bin_lss rfl ?_; clear hE a; intro a hE
        replace hE := hE.cast 8 rfl (show _ = Value.bool true from (congrArg Value.bool (by decide)))
        refine q_nil ?_
        refine hK19 _ _ ?_
        refine wp_seq_k (fun K20 hK20 => ?_)
        refine wp_cond_true (hE.eval rfl) ?_
        refine wp_skip ?_
        refine hK20 _ _ ?_
        refine wp_seq_k (fun K21 hK21 => ?_)
        refine wp_block ?_
        refine wp_seq_k (fun K22 hK22 => ?_)
        refine wp_plain [true, false, false] rfl rfl ?_
        have hil290_2 : h.s0.2.2.1.length = 16 := hk.s0.2.1
        have hil290_3 : h.s0.2.2.2.1.length = 32 := hk.s0.2.2.1
        have hil290_4 : h.s0.2.2.2.2.length = 32 := hk.s0.2.2.2
        have hil290_7 : h.s1.2.2.1.length = 16 := hk.s1.2.1
        have hil290_8 : h.s1.2.2.2.1.length = 32 := hk.s1.2.2.1
        have hil290_9 : h.s1.2.2.2.2.length = 32 := hk.s1.2.2.2
        have hil290_12 : h.s2.2.2.1.length = 16 := hk.s2.2.1
        have hil290_13 : h.s2.2.2.2.1.length = 32 := hk.s2.2.2.1
        have hil290_14 : h.s2.2.2.2.2.length = 32 := hk.s2.2.2.2
        have hil290_17 : h.s3.2.2.1.length = 16 := hk.s3.2.1
        have hil290_18 : h.s3.2.2.2.1.length = 32 := hk.s3.2.2.1
        have hil290_19 : h.s3.2.2.2.2.length = 32 := hk.s3.2.2.2
        refine s_indexAgg (j := 3) hE rfl rfl Try.underlying37 row36 rfl (by decide) rfl ?_; clear hE a; intro a hE
        replace hE := hE.cast 9 rfl (show _ = Value.agg ([[.bool h.s3.1], [.int .i64 h.s3.2.1], bv h.s3.2.2.1, bv h.s3.2.2.2.1, bv h.s3.2.2.2.2] : List (List Value)).flatten.toArray from congrArg (fun l : List Value => Value.agg l.toArray) (flat_seg (ps := [[.bool h.s0.1], [.int .i64 h.s0.2.1], bv h.s0.2.2.1, bv h.s0.2.2.2.1, bv h.s0.2.2.2.2, [.bool h.s1.1], [.int .i64 h.s1.2.1], bv h.s1.2.2.1, bv h.s1.2.2.2.1, bv h.s1.2.2.2.2, [.bool h.s2.1], [.int .i64 h.s2.2.1], bv h.s2.2.2.1, bv h.s2.2.2.2.1, bv h.s2.2.2.2.2]) (qs := [[.bool h.s3.1], [.int .i64 h.s3.2.1], bv h.s3.2.2.1, bv h.s3.2.2.2.1, bv h.s3.2.2.2.2]) (rs := []) (by simp only [List.map_cons, List.map_nil, bv_length, List.length_cons, List.length_nil, List.length_replicate, hil290_2, hil290_3, hil290_4, hil290_7, hil290_8, hil290_9, hil290_12, hil290_13, hil290_14, hil290_17, hil290_18, hil290_19]; rfl) (by simp only [List.map_cons, List.map_nil, bv_length, List.length_cons, List.length_nil, List.length_replicate, hil290_2, hil290_3, hil290_4, hil290_7, hil290_8, hil290_9, hil290_12, hil290_13, hil290_14, hil290_17, hil290_18, hil290_19]; rfl)))
        refine s_alloc [1, 1, 16, 32, 32] hE hM zeroL36 rfl rfl ?_; clear hE a; intro a b4 w8 hE hM'
        clear hM; have hM := hM'; clear hM'
        have hsl306_2 : h.s3.2.2.1.length = 16 := hk.s3.2.1
        have hsl306_3 : h.s3.2.2.2.1.length = 32 := hk.s3.2.2.1
        have hsl306_4 : h.s3.2.2.2.2.length = 32 := hk.s3.2.2.2
        replace hM : Mem _ _ w8 [_, _] := hM.pick [0, 2] rfl
        refine s_storeSegs 0 5 (vss := [[.bool h.s3.1], [.int .i64 h.s3.2.1], bv h.s3.2.2.1, bv h.s3.2.2.2.1, bv h.s3.2.2.2.2]) hE rfl rfl hM rfl sz36 (by simp only [List.take_succ_cons, List.take_zero, List.drop_zero, List.drop_succ_cons]; simp only [List.map_cons, List.map_nil, bv_length, List.length_cons, List.length_nil, List.length_replicate, hsl306_2, hsl306_3, hsl306_4]) (by decide) rfl (one_fl ⟨one1 rfl, one1 rfl, bv_one _, bv_one _, bv_one _, trivial⟩) rfl (by intro X h; cases h) ?_; intro w9 hM'; clear hM; have hM := hM'; clear hM'
        try simp only [List.take_zero, List.take_succ_cons, List.drop_zero, List.drop_succ_cons, List.take_nil, List.drop_nil, List.nil_append, List.append_nil, List.cons_append] at hM
        refine q_nil ?_
        replace hE : Env a 14 [(2, _), (4, _), (6, _), (7, _), (8, _), (12, _)] := hE.sel [2, 4, 6, 7, 8, 12] rfl
        refine hK22 _ _ ?_
        refine wp_seq_k (fun K23 hK23 => ?_)
        refine wp_plain [true, true, true] rfl rfl ?_
        refine s_fieldAddr hE rfl fo36_1 rfl ?_; clear hE a; intro a hE
        refine s_load1 hE rfl (hM.get 0 rfl) rfl one3 (by intro X h; cases h) rfl ?_; clear hE a; intro a hE
        refine s_bin hE rfl rfl bin_gtr rfl ?_; clear hE a; intro a hE
        refine q_nil ?_
        replace hE : Env a 14 [(2, _), (4, _), (6, _), (7, _), (8, _), (12, _)] := hE.sel [2, 4, 6, 7, 8, 12] rfl
        refine hK23 _ _ ?_
        refine hE.split 12 rfl (fun hb12''' hE' => ?_) (fun hb12''' hE' => ?_)
        · replace hE := hE'; clear hE'
          replace hb12''' := of_decide_eq_true hb12'''
          refine wp_cond_true (hE.eval rfl) ?_
          refine wp_seq_k (fun K24 hK24 => ?_)
          refine wp_plain [true] rfl rfl ?_
          refine s_assign hE rfl rfl ?_; clear hE a; intro a hE
          refine q_nil ?_
          refine hK24 _ _ ?_
          refine wp_ret ?_
          refine q_block_r ?_
          refine q_then_r ?_
          refine q_then_r ?_
          refine q_block_r ?_
          refine q_then_r ?_
          refine f_ret1 hE rfl rfl ?_
          exact ⟨(by simp [longB, hb12, hb12', hb12'', hb12'''] <;> omega), hM.pick [] rfl⟩
        · replace hE := hE'; clear hE'
          replace hb12''' := of_decide_eq_false hb12'''
          refine wp_cond_false (hE.eval rfl) ?_
          refine wp_skip ?_
          refine q_block_n ?_
          refine hK21 _ _ ?_
          refine wp_plain [true, true] rfl rfl ?_
          refine s_bin hE rfl rfl (show Bin _ _ _ _ _ (.int .i64 4) from bin_add (by rw [wrap_i64 (by omega) (by omega)]; omega)) rfl ?_; clear hE a; intro a hE
          refine s_move hE rfl rfl ?_; clear hE a; intro a hE
          refine q_nil ?_
          replace hE : Env a 14 [(2, _), (4, _), (6, _), (7, _), (8, _), (12, _)] := hE.sel [2, 4, 6, 7, 8, 12] rfl
          replace hM : Mem _ _ w9 [_, _] := hM.pick [0, 1] rfl
          refine q_then_n (c_rounds ?_)
          refine wp_seq_k (fun K24 hK24 => ?_)
          refine wp_plain [true] rfl rfl ?_
          refine s_bin hE rfl rfl bin_lss rfl ?_; clear hE a; intro a hE
          replace hE := hE.cast 8 rfl (show _ = Value.bool false from (congrArg Value.bool (by decide)))
          refine q_nil ?_
          refine hK24 _ _ ?_
          refine wp_seq_k (fun K25 hK25 => ?_)
          refine wp_cond_false (hE.eval rfl) ?_
          refine wp_exit ?_
          refine q_then_e ?_
          refine q_then_e ?_
          refine q_block_x ?_
          refine hK2 _ _ ?_
          refine wp_seq_k (fun K26 hK26 => ?_)
          refine wp_plain [true] rfl rfl ?_
          refine s_assign hE rfl rfl ?_; clear hE a; intro a hE
          refine q_nil ?_
          refine hK26 _ _ ?_
          refine wp_ret ?_
          refine f_ret1 hE rfl rfl ?_
          exact ⟨(by simp [longB, hb12, hb12', hb12'', hb12'''] <;> omega), hM.pick [] rfl⟩
theorem check_c (h : Hd) (w : World) (hk : OkHd h) : Calls Try.prog 10 #[.agg ([[.int .i64 h.m], [.int .i64 h.r], [.bool h.v0.1], [.int .u64 ((h.v0.2.1 : Nat) : Int)], bv h.v0.2.2.1, bv h.v0.2.2.2, [.bool h.v1.1], [.int .u64 ((h.v1.2.1 : Nat) : Int)], bv h.v1.2.2.1, bv h.v1.2.2.2, [.bool h.s0.1], [.int .i64 h.s0.2.1], bv h.s0.2.2.1, bv h.s0.2.2.2.1, bv h.s0.2.2.2.2, [.bool h.s1.1], [.int .i64 h.s1.2.1], bv h.s1.2.2.1, bv h.s1.2.2.2.1, bv h.s1.2.2.2.2, [.bool h.s2.1], [.int .i64 h.s2.2.1], bv h.s2.2.2.1, bv h.s2.2.2.2.1, bv h.s2.2.2.2.2, [.bool h.s3.1], [.int .i64 h.s3.2.1], bv h.s3.2.2.1, bv h.s3.2.2.2.1, bv h.s3.2.2.2.2] : List (List Value)).flatten.toArray] w fun e w' => e = .returned (.int .i64 ((checkH h : Nat) : Int)) ∧ Mem w [] w' [] := by
  have hM := Mem.start0 w
  refine f_enter 10 Try.func10 rfl rfl rfl ?_
  intro a hE
  replace hE : Env a 10 [(0, _)] := hE
  refine wp_seq_k (fun K1 hK1 => ?_)
  refine wp_plain [false, true] rfl rfl ?_
  have hbl1_4 : h.v0.2.2.1.length = 32 := hk.v0.2.1
  have hbl1_5 : h.v0.2.2.2.length = 32 := hk.v0.2.2
  have hbl1_8 : h.v1.2.2.1.length = 32 := hk.v1.2.1
  have hbl1_9 : h.v1.2.2.2.length = 32 := hk.v1.2.2
  have hbl1_12 : h.s0.2.2.1.length = 16 := hk.s0.2.1
  have hbl1_13 : h.s0.2.2.2.1.length = 32 := hk.s0.2.2.1
  have hbl1_14 : h.s0.2.2.2.2.length = 32 := hk.s0.2.2.2
  have hbl1_17 : h.s1.2.2.1.length = 16 := hk.s1.2.1
  have hbl1_18 : h.s1.2.2.2.1.length = 32 := hk.s1.2.2.1
  have hbl1_19 : h.s1.2.2.2.2.length = 32 := hk.s1.2.2.2
  have hbl1_22 : h.s2.2.2.1.length = 16 := hk.s2.2.1
  have hbl1_23 : h.s2.2.2.2.1.length = 32 := hk.s2.2.2.1
  have hbl1_24 : h.s2.2.2.2.2.length = 32 := hk.s2.2.2.2
  have hbl1_27 : h.s3.2.2.1.length = 16 := hk.s3.2.1
  have hbl1_28 : h.s3.2.2.2.1.length = 32 := hk.s3.2.2.1
  have hbl1_29 : h.s3.2.2.2.2.length = 32 := hk.s3.2.2.2
  refine s_box (ss := [[.int .i64 h.m], [.int .i64 h.r], [.bool h.v0.1], [.int .u64 ((h.v0.2.1 : Nat) : Int)], bv h.v0.2.2.1, bv h.v0.2.2.2, [.bool h.v1.1], [.int .u64 ((h.v1.2.1 : Nat) : Int)], bv h.v1.2.2.1, bv h.v1.2.2.2, [.bool h.s0.1], [.int .i64 h.s0.2.1], bv h.s0.2.2.1, bv h.s0.2.2.2.1, bv h.s0.2.2.2.2, [.bool h.s1.1], [.int .i64 h.s1.2.1], bv h.s1.2.2.1, bv h.s1.2.2.2.1, bv h.s1.2.2.2.2, [.bool h.s2.1], [.int .i64 h.s2.2.1], bv h.s2.2.2.1, bv h.s2.2.2.2.1, bv h.s2.2.2.2.2, [.bool h.s3.1], [.int .i64 h.s3.2.1], bv h.s3.2.2.1, bv h.s3.2.2.2.1, bv h.s3.2.2.2.2]) [1, 1, 1, 1, 32, 32, 1, 1, 32, 32, 1, 1, 16, 32, 32, 1, 1, 16, 32, 32, 1, 1, 16, 32, 32, 1, 1, 16, 32, 32] hE hM rfl rfl (by simp only [List.map_cons, List.map_nil, bv_length, List.length_cons, List.length_nil, List.length_replicate, hbl1_4, hbl1_5, hbl1_8, hbl1_9, hbl1_12, hbl1_13, hbl1_14, hbl1_17, hbl1_18, hbl1_19, hbl1_22, hbl1_23, hbl1_24, hbl1_27, hbl1_28, hbl1_29]) rfl ?_; clear hE a; intro a b1 w1 hE hM'
  clear hM; have hM := hM'; clear hM'
  refine s_assign hE rfl rfl ?_; clear hE a; intro a hE
  refine q_nil ?_
  replace hE : Env a 10 [(1, _), (2, _)] := hE.sel [1, 2] rfl
  refine hK1 _ _ ?_
  refine wp_seq_k (fun K2 hK2 => ?_)
  refine wp_seq_k (fun K3 hK3 => ?_)
  refine wp_plain [true, false, true, true, true, false, true] rfl rfl ?_
  refine s_loadN hE rfl (hM.get 0 rfl) row39 rfl (by intro X h; cases h) rfl ?_; clear hE a; intro a hE
  replace hE := hE.cast 3 rfl (show _ = Value.agg ([[.int .i64 h.m], [.int .i64 h.r], [.bool h.v0.1], [.int .u64 ((h.v0.2.1 : Nat) : Int)], bv h.v0.2.2.1, bv h.v0.2.2.2, [.bool h.v1.1], [.int .u64 ((h.v1.2.1 : Nat) : Int)], bv h.v1.2.2.1, bv h.v1.2.2.2, [.bool h.s0.1], [.int .i64 h.s0.2.1], bv h.s0.2.2.1, bv h.s0.2.2.2.1, bv h.s0.2.2.2.2, [.bool h.s1.1], [.int .i64 h.s1.2.1], bv h.s1.2.2.1, bv h.s1.2.2.2.1, bv h.s1.2.2.2.2, [.bool h.s2.1], [.int .i64 h.s2.2.1], bv h.s2.2.2.1, bv h.s2.2.2.2.1, bv h.s2.2.2.2.2, [.bool h.s3.1], [.int .i64 h.s3.2.1], bv h.s3.2.2.1, bv h.s3.2.2.2.1, bv h.s3.2.2.2.2] : List (List Value)).flatten.toArray from (by first | rfl | simp only [List.flatten_cons, List.flatten_nil, List.append_nil, List.append_assoc]))
  refine s_call hE rfl Try.call23 (shaped_c h _ hk ) rfl ?_
  rintro e w2 ⟨rfl, hN⟩
  refine ⟨_, rfl, trivial, ?_⟩; clear hE a; intro a hE
  replace hM : Mem _ _ w2 [_] := hM.call0 hN trivial; clear hN
  refine s_not hE rfl rfl ?_; clear hE a; intro a hE
  refine s_move hE rfl rfl ?_; clear hE a; intro a hE
  refine hE.split 6 rfl (fun hb6 hE' => ?_) (fun hb6 hE' => ?_)
  · replace hE := hE'; clear hE'
    replace hb6 := not_true hb6
    refine g_no (b := true) hE rfl rfl rfl ?_; clear hE a; intro a hE
    refine g_no (b := true) hE rfl rfl rfl ?_; clear hE a; intro a hE
    refine s_pickt hE rfl rfl rfl ?_; clear hE a; intro a hE
    refine q_nil ?_
    replace hE : Env a 10 [(2, _), (9, _)] := hE.sel [2, 9] rfl
    refine hK3 _ _ ?_
    refine wp_cond_true (hE.eval rfl) ?_
    refine wp_seq_k (fun K4 hK4 => ?_)
    refine wp_plain [true] rfl rfl ?_
    refine s_assign hE rfl rfl ?_; clear hE a; intro a hE
    refine q_nil ?_
    refine hK4 _ _ ?_
    refine wp_ret ?_
    refine q_then_r ?_
    refine f_ret1 hE rfl rfl ?_
    exact ⟨(by simp [checkH, hb6]), hM.pick [] rfl⟩
  · replace hE := hE'; clear hE'
    replace hb6 := not_false' hb6
    refine g_yes hE rfl rfl ?_
    refine s_loadN hE rfl (hM.get 0 rfl) row39 rfl (by intro X h; cases h) rfl ?_; clear hE a; intro a hE
    replace hE := hE.cast 7 rfl (show _ = Value.agg ([[.int .i64 h.m], [.int .i64 h.r], [.bool h.v0.1], [.int .u64 ((h.v0.2.1 : Nat) : Int)], bv h.v0.2.2.1, bv h.v0.2.2.2, [.bool h.v1.1], [.int .u64 ((h.v1.2.1 : Nat) : Int)], bv h.v1.2.2.1, bv h.v1.2.2.2, [.bool h.s0.1], [.int .i64 h.s0.2.1], bv h.s0.2.2.1, bv h.s0.2.2.2.1, bv h.s0.2.2.2.2, [.bool h.s1.1], [.int .i64 h.s1.2.1], bv h.s1.2.2.1, bv h.s1.2.2.2.1, bv h.s1.2.2.2.2, [.bool h.s2.1], [.int .i64 h.s2.2.1], bv h.s2.2.2.1, bv h.s2.2.2.2.1, bv h.s2.2.2.2.2, [.bool h.s3.1], [.int .i64 h.s3.2.1], bv h.s3.2.2.1, bv h.s3.2.2.2.1, bv h.s3.2.2.2.2] : List (List Value)).flatten.toArray from (by first | rfl | simp only [List.flatten_cons, List.flatten_nil, List.append_nil, List.append_assoc]))
    refine g_yes hE rfl rfl ?_
    refine s_call hE rfl Try.call24 (long_c h _ hk ) rfl ?_
    rintro e w3 ⟨rfl, hN⟩
    refine ⟨_, rfl, trivial, ?_⟩; clear hE a; intro a hE
    replace hM : Mem _ _ w3 [_] := hM.call0 hN trivial; clear hN
    refine s_pickf hE rfl rfl rfl ?_; clear hE a; intro a hE
    refine q_nil ?_
    replace hE : Env a 10 [(2, _), (9, _)] := hE.sel [2, 9] rfl
    refine hK3 _ _ ?_
    refine hE.split 9 rfl (fun hb9 hE' => ?_) (fun hb9 hE' => ?_)
    · replace hE := hE'; clear hE'
      refine wp_cond_true (hE.eval rfl) ?_
      refine wp_seq_k (fun K4 hK4 => ?_)
      refine wp_plain [true] rfl rfl ?_
      refine s_assign hE rfl rfl ?_; clear hE a; intro a hE
      refine q_nil ?_
      refine hK4 _ _ ?_
      refine wp_ret ?_
      refine q_then_r ?_
      refine f_ret1 hE rfl rfl ?_
      exact ⟨(by simp [checkH, hb6, hb9]), hM.pick [] rfl⟩
    · replace hE := hE'; clear hE'
      refine wp_cond_false (hE.eval rfl) ?_
      refine wp_skip ?_
      refine hK2 _ _ ?_
      refine wp_seq_k (fun K4 hK4 => ?_)
      refine wp_plain [true] rfl rfl ?_
      refine s_assign hE rfl rfl ?_; clear hE a; intro a hE
      refine q_nil ?_
      refine hK4 _ _ ?_
      refine wp_ret ?_
      refine f_ret1 hE rfl rfl ?_
      exact ⟨(by simp [checkH, hb6, hb9]), hM.pick [] rfl⟩
theorem hnum_c (v : Value) (bs : List UInt8) (c : Nat) (k : Nat) (m : Nat) (w : World) (hr_bs : (rd v 1 bs.length c (bv bs)).holds w) (hw : widthB ((k : Nat) : Int) = true) (hf : 8 ≤ k ∨ m < 256 ^ k) (hb : bs.length + 8 ≤ 140737488355328) : Calls Try.prog 31 #[v, .int .i64 (k : Int), .int .u64 (m : Int)] w fun e w' => ∃ v', e = .returned (v') ∧ Mem w [] w' [own v' 1 (bs ++ laid k m).length (bv (bs ++ laid k m))] := by
  have hM : Mem w [] w [rd v 1 bs.length c (bv bs)] := Mem.startR w (fun g hg => by
    simp only [List.mem_cons, List.not_mem_nil, or_false] at hg
    rcases hg with rfl
    · exact ⟨hr_bs, rfl⟩)
  refine f_enter 15 Try.func31 rfl rfl rfl ?_
  intro a hE
  replace hE : Env a 15 [(0, _), (1, _), (2, _)] := hE
  refine wp_seq_k (fun K1 hK1 => ?_)
  refine wp_plain [true] rfl rfl ?_
  refine s_assign hE rfl rfl ?_; clear hE a; intro a hE
  refine q_nil ?_
  refine hK1 _ _ ?_
  refine wp_seq_k (fun K2 hK2 => ?_)
  refine wp_plain [true, true, true, false, true, true, true, true] rfl rfl ?_
  refine s_move hE rfl rfl ?_; clear hE a; intro a hE
  refine s_move hE rfl rfl ?_; clear hE a; intro a hE
  refine s_move hE rfl rfl ?_; clear hE a; intro a hE
  refine s_call hE rfl Try.call45 (num_fit bs _ _ k m _ (hM.get 0 rfl) hw hf (by omega)) rfl ?_
  rintro e w1 ⟨v11, rfl, hN⟩
  refine ⟨_, rfl, trivial, ?_⟩; clear hE a; intro a hE
  replace hM : Mem _ _ w1 [_, _] := hM.call0 hN ⟨rfl, trivial⟩; clear hN
  refine s_move hE rfl rfl ?_; clear hE a; intro a hE
  refine s_extract hE rfl rfl rfl ?_; clear hE a; intro a hE
  refine s_extract hE rfl rfl rfl ?_; clear hE a; intro a hE
  refine s_assign hE rfl rfl ?_; clear hE a; intro a hE
  refine q_nil ?_
  replace hE : Env a 15 [(0, _), (6, _)] := hE.sel [0, 6] rfl
  refine hK2 _ _ ?_
  refine wp_seq_k (fun K3 hK3 => ?_)
  refine wp_plain [true, true] rfl rfl ?_
  refine s_move hE rfl rfl ?_; clear hE a; intro a hE
  refine s_assign hE rfl rfl ?_; clear hE a; intro a hE
  refine q_nil ?_
  replace hE : Env a 15 [(0, _), (6, _)] := hE.sel [0, 6] rfl
  refine hK3 _ _ ?_
  refine wp_ret ?_
  refine f_ret1 hE rfl rfl ?_
  exact ⟨_, (by first | rfl | (simp; done)), hM.pick [0] rfl⟩
theorem hflag_c (fb : Bool) (w : World)  : Calls Try.prog 33 #[.bool fb] w fun e w' => e = .returned (.int .u64 ((flagN fb : Nat) : Int)) ∧ Mem w [] w' [] := by
  have hM := Mem.start0 w
  refine f_enter 4 Try.func33 rfl rfl rfl ?_
  intro a hE
  replace hE : Env a 4 [(0, _)] := hE
  refine wp_seq_k (fun K1 hK1 => ?_)
  refine wp_plain [true] rfl rfl ?_
  refine s_assign hE rfl rfl ?_; clear hE a; intro a hE
  refine q_nil ?_
  refine hK1 _ _ ?_
  refine wp_seq_k (fun K2 hK2 => ?_)
  refine wp_seq_k (fun K3 hK3 => ?_)
  refine wp_plain [true] rfl rfl ?_
  refine s_move hE rfl rfl ?_; clear hE a; intro a hE
  refine q_nil ?_
  replace hE : Env a 4 [(2, _), (3, _)] := hE.sel [2, 3] rfl
  refine hK3 _ _ ?_
  refine hE.split 3 rfl (fun hb3 hE' => ?_) (fun hb3 hE' => ?_)
  · replace hE := hE'; clear hE'
    refine wp_cond_true (hE.eval rfl) ?_
    refine wp_seq_k (fun K4 hK4 => ?_)
    refine wp_plain [true] rfl rfl ?_
    refine s_assign hE rfl rfl ?_; clear hE a; intro a hE
    refine q_nil ?_
    refine hK4 _ _ ?_
    refine wp_ret ?_
    refine q_then_r ?_
    refine f_ret1 hE rfl rfl ?_
    exact ⟨(by simp [flagN, hb3]), hM.pick [] rfl⟩
  · replace hE := hE'; clear hE'
    refine wp_cond_false (hE.eval rfl) ?_
    refine wp_skip ?_
    refine hK2 _ _ ?_
    refine wp_seq_k (fun K4 hK4 => ?_)
    refine wp_plain [true] rfl rfl ?_
    refine s_assign hE rfl rfl ?_; clear hE a; intro a hE
    refine q_nil ?_
    refine hK4 _ _ ?_
    refine wp_ret ?_
    refine f_ret1 hE rfl rfl ?_
    exact ⟨(by simp [flagN, hb3]), hM.pick [] rfl⟩
set_option maxHeartbeats 1500000 in
theorem hlay_c (h : Hd) (w : World) (hk : OkHd h) (hs : shapedB h = true) (hit : itB h) : Calls Try.prog 20 #[.agg ([[.int .i64 h.m], [.int .i64 h.r], [.bool h.v0.1], [.int .u64 ((h.v0.2.1 : Nat) : Int)], bv h.v0.2.2.1, bv h.v0.2.2.2, [.bool h.v1.1], [.int .u64 ((h.v1.2.1 : Nat) : Int)], bv h.v1.2.2.1, bv h.v1.2.2.2, [.bool h.s0.1], [.int .i64 h.s0.2.1], bv h.s0.2.2.1, bv h.s0.2.2.2.1, bv h.s0.2.2.2.2, [.bool h.s1.1], [.int .i64 h.s1.2.1], bv h.s1.2.2.1, bv h.s1.2.2.2.1, bv h.s1.2.2.2.2, [.bool h.s2.1], [.int .i64 h.s2.2.1], bv h.s2.2.2.1, bv h.s2.2.2.2.1, bv h.s2.2.2.2.2, [.bool h.s3.1], [.int .i64 h.s3.2.1], bv h.s3.2.2.1, bv h.s3.2.2.2.1, bv h.s3.2.2.2.2] : List (List Value)).flatten.toArray] w fun e w' => ∃ v', e = .returned (v') ∧ Mem w [] w' [own v' 1 (layH h).length (bv (layH h))] := by
  have hi0 := hk.s0.1
  have hi1 := hk.s1.1
  have hi2 := hk.s2.1
  have hi3 := hk.s3.1
  have hn0 := hk.v0.1
  have hn1 := hk.v1.1
  obtain ⟨⟨hm1, hm2, hr1, hr2⟩, hq0, hq1, hp0, hp1, hp2, hp3⟩ := shaped_facts hs
  obtain ⟨ht0, ht1, ht2, ht3⟩ := hit
  have hM := Mem.start0 w
  refine f_enter 60 Try.func20 rfl rfl rfl ?_
  intro a hE
  replace hE : Env a 60 [(0, _)] := hE
  refine wp_seq_k (fun K1 hK1 => ?_)
  refine wp_plain [false, true] rfl rfl ?_
  have hbl1_4 : h.v0.2.2.1.length = 32 := hk.v0.2.1
  have hbl1_5 : h.v0.2.2.2.length = 32 := hk.v0.2.2
  have hbl1_8 : h.v1.2.2.1.length = 32 := hk.v1.2.1
  have hbl1_9 : h.v1.2.2.2.length = 32 := hk.v1.2.2
  have hbl1_12 : h.s0.2.2.1.length = 16 := hk.s0.2.1
  have hbl1_13 : h.s0.2.2.2.1.length = 32 := hk.s0.2.2.1
  have hbl1_14 : h.s0.2.2.2.2.length = 32 := hk.s0.2.2.2
  have hbl1_17 : h.s1.2.2.1.length = 16 := hk.s1.2.1
  have hbl1_18 : h.s1.2.2.2.1.length = 32 := hk.s1.2.2.1
  have hbl1_19 : h.s1.2.2.2.2.length = 32 := hk.s1.2.2.2
  have hbl1_22 : h.s2.2.2.1.length = 16 := hk.s2.2.1
  have hbl1_23 : h.s2.2.2.2.1.length = 32 := hk.s2.2.2.1
  have hbl1_24 : h.s2.2.2.2.2.length = 32 := hk.s2.2.2.2
  have hbl1_27 : h.s3.2.2.1.length = 16 := hk.s3.2.1
  have hbl1_28 : h.s3.2.2.2.1.length = 32 := hk.s3.2.2.1
  have hbl1_29 : h.s3.2.2.2.2.length = 32 := hk.s3.2.2.2
  refine s_box (ss := [[.int .i64 h.m], [.int .i64 h.r], [.bool h.v0.1], [.int .u64 ((h.v0.2.1 : Nat) : Int)], bv h.v0.2.2.1, bv h.v0.2.2.2, [.bool h.v1.1], [.int .u64 ((h.v1.2.1 : Nat) : Int)], bv h.v1.2.2.1, bv h.v1.2.2.2, [.bool h.s0.1], [.int .i64 h.s0.2.1], bv h.s0.2.2.1, bv h.s0.2.2.2.1, bv h.s0.2.2.2.2, [.bool h.s1.1], [.int .i64 h.s1.2.1], bv h.s1.2.2.1, bv h.s1.2.2.2.1, bv h.s1.2.2.2.2, [.bool h.s2.1], [.int .i64 h.s2.2.1], bv h.s2.2.2.1, bv h.s2.2.2.2.1, bv h.s2.2.2.2.2, [.bool h.s3.1], [.int .i64 h.s3.2.1], bv h.s3.2.2.1, bv h.s3.2.2.2.1, bv h.s3.2.2.2.2]) [1, 1, 1, 1, 32, 32, 1, 1, 32, 32, 1, 1, 16, 32, 32, 1, 1, 16, 32, 32, 1, 1, 16, 32, 32, 1, 1, 16, 32, 32] hE hM rfl rfl (by simp only [List.map_cons, List.map_nil, bv_length, List.length_cons, List.length_nil, List.length_replicate, hbl1_4, hbl1_5, hbl1_8, hbl1_9, hbl1_12, hbl1_13, hbl1_14, hbl1_17, hbl1_18, hbl1_19, hbl1_22, hbl1_23, hbl1_24, hbl1_27, hbl1_28, hbl1_29]) rfl ?_; clear hE a; intro a b1 w1 hE hM'
  clear hM; have hM := hM'; clear hM'
  refine s_assign hE rfl rfl ?_; clear hE a; intro a hE
  refine q_nil ?_
  replace hE : Env a 60 [(1, _), (2, _)] := hE.sel [1, 2] rfl
  refine hK1 _ _ ?_
  refine wp_seq_k (fun K2 hK2 => ?_)
  refine wp_treeM hM (by kernel_rfl) (fun _ => True) (fun _ => True) (.re [(2, true), (3, true), (7, true), (8, true), (4, true), (5, true), (9, true), (10, true), (0, false), (1, false), (6, false), (11, false), (12, true)] (.fl 4 (.weak (.fl 4 (.or 0 (.re [(1, false), (6, false), (11, false), (12, true)] (.fl 0 (.fl 0 (.or 1 (.re [(6, false), (11, false), (12, true)] (.leaf 3)) (.stop))))) (.stop)))))) [(2, true), (3, true), (7, true), (8, true), (4, true), (5, true), (9, true), (10, true), (0, false), (1, false), (6, false), (11, false), (12, true)] [(0, [(1, 0), (6, 1), (11, 6), (12, 0)]), (1, [(6, 1), (11, 6), (12, 1)]), (6, [(11, 6), (12, 6)]), (11, [(12, 11)])] (by kernel_rfl) ?_
  intro w2 hM' hww2; clear hM; have hM := hM'; clear hM'
  refine o_re ?_
  refine o_fl rfl ?_
  refine s_fieldAddr hE rfl fo39_0 rfl ?_; clear hE a; intro a hE
  refine s_fieldAddr hE rfl fo23_0 rfl ?_; clear hE a; intro a hE
  refine s_fieldAddr hE rfl fo39_0 rfl ?_; clear hE a; intro a hE
  refine s_fieldAddr hE rfl fo23_1 rfl ?_; clear hE a; intro a hE
  refine q_nil (q_nx ?_)
  refine o_weak (fun b => b ≠ b1) (fun _ _ => trivial) ?_
  refine o_fl rfl ?_
  refine s_load1 hE rfl (hM.get 0 rfl) rfl one3 (by intro X h; cases h; simp) rfl ?_; clear hE a; intro a hE
  refine s_conv hE rfl (cnv_int Try.underlying3 Try.underlying24 (wrap_u64_toNat (z := h.m) (by omega) (by omega))) rfl ?_; clear hE a; intro a hE
  refine s_load1 hE rfl (hM.get 0 rfl) rfl one3 (by intro X h; cases h; simp) rfl ?_; clear hE a; intro a hE
  refine s_conv hE rfl (cnv_int Try.underlying3 Try.underlying24 (wrap_u64_toNat (z := h.r) (by omega) (by omega))) rfl ?_; clear hE a; intro a hE
  refine q_nil (q_nx ?_)
  refine o_or rfl ?_ ?_
  · refine s_buildSlice (xs := [.const (.int .u8 67), .const (.int .u8 65), .const (.int .u8 83), .const (.int .u8 69), .const (.int .u8 77), .const (.int .u8 65), .const (.int .u8 84), .const (.int .u8 49)]) (bv [67, 65, 83, 69, 77, 65, 84, 49]) hE hM sl55 rfl rfl rfl (by intro v hv; first | (cases hv; done) | (obtain ⟨x, _, rfl⟩ := List.mem_map.1 (show v ∈ bv [67, 65, 83, 69, 77, 65, 84, 49] from hv); rfl)) rfl rfl rfl rfl ?_; clear hE a; intro a v8 w3 hE hM'
    clear hM; have hM := hM'; clear hM'
    replace hM := hM.ownEq (m' := [67, 65, 83, 69, 77, 65, 84, 49].length) (cs' := bv [67, 65, 83, 69, 77, 65, 84, 49]) rfl rfl
    refine q_nil (q_nx ?_)
    refine o_re ?_
    refine o_fl rfl ?_
    refine q_nil (q_nx ?_)
    refine o_fl rfl ?_
    refine q_nil (q_nx ?_)
    refine o_or rfl ?_ ?_
    · refine s_convSame hE rfl hM Try.underlying55 Try.underlying5 (by have hl_ : [67, 65, 83, 69, 77, 65, 84, 49].length = 8 := (by first | (simp; done) | (simp [*]; done) | (simp; omega)); first | omega | decide | (simp; done) | (simp; omega)) (by intro X h; cases h; intro b hb; exact fun e => ((apart_of_get hM.apart (i := 0) (j := 1) rfl rfl (by decide)).1 b hb).1 (by rw [e]; exact .head _)) rfl ?_; clear hE a; intro a w4 hE hM'; clear hM; have hM := hM'; clear hM'
      refine q_nil (q_nx ?_)
      refine o_re ?_
      refine o_leaf rfl rfl ?_
      obtain ⟨cq1, hq1⟩ := own_rd (hM.get 0 rfl)
      have hLb1 : ([67, 65, 83, 69, 77, 65, 84, 49] ++ laid 1 h.m.toNat).length = 8 + 1 := (by have hl_q : [67, 65, 83, 69, 77, 65, 84, 49].length = 8 := (by first | (simp; done) | (simp [*]; done) | (simp; omega)); rw [List.length_append, laid_length]; try omega)
      refine s_call hE rfl Try.call31 (hnum_c _ [67, 65, 83, 69, 77, 65, 84, 49] _ 1 h.m.toNat _ hq1 (by decide) (by first | exact .inl (by decide) | exact .inr (by omega) | exact .inr flag_lt) (by have hl_0 : [67, 65, 83, 69, 77, 65, 84, 49].length = 8 := (by first | (simp; done) | (simp [*]; done) | (simp; omega)); first | omega | assumption | (simp; done) | (simp; omega) | decide)) rfl ?_
      rintro e w5 ⟨v14, rfl, hN⟩
      refine ⟨_, rfl, hN.sta0 _, ?_⟩; clear hE a; intro a hE
      replace hM : Mem _ _ w5 [_, _, _] := hM.call0 hN ⟨rfl, trivial⟩; clear hN
      obtain ⟨cq2, hq2⟩ := own_rd (hM.get 0 rfl)
      have hLb2 : (([67, 65, 83, 69, 77, 65, 84, 49] ++ laid 1 h.m.toNat) ++ laid 1 h.r.toNat).length = 8 + 1 + 1 := (by have hl_q : ([67, 65, 83, 69, 77, 65, 84, 49] ++ laid 1 h.m.toNat).length = 8 + 1 := hLb1; rw [List.length_append, laid_length]; try omega)
      refine s_call hE rfl Try.call31 (hnum_c _ ([67, 65, 83, 69, 77, 65, 84, 49] ++ laid 1 h.m.toNat) _ 1 h.r.toNat _ hq2 (by decide) (by first | exact .inl (by decide) | exact .inr (by omega) | exact .inr flag_lt) (by have hl_0 : ([67, 65, 83, 69, 77, 65, 84, 49] ++ laid 1 h.m.toNat).length = 8 + 1 := hLb1; first | omega | assumption | (simp; done) | (simp; omega) | decide)) rfl ?_
      rintro e w6 ⟨v19, rfl, hN⟩
      refine ⟨_, rfl, hN.sta0 _, ?_⟩; clear hE a; intro a hE
      replace hM : Mem _ _ w6 [_, _, _, _] := hM.call0 hN ⟨rfl, trivial⟩; clear hN
      refine s_assign hE rfl rfl ?_; clear hE a; intro a hE
      refine q_nil (q_ph (q_nil ?_))
      replace hE : Env a 60 [(1, _), (2, _), (3, _)] := hE.sel [1, 2, 3] rfl
      refine hK2 _ _ ?_
      refine wp_seq_k (fun K3 hK3 => ?_)
      refine wp_seq_k (fun K4 hK4 => ?_)
      refine wp_plain [true, true, true] rfl rfl ?_
      refine s_fieldAddr hE rfl fo39_1 rfl ?_; clear hE a; intro a hE
      refine s_loadN hE rfl (hM.get 3 rfl) row32 rfl (by intro X h; cases h) rfl ?_; clear hE a; intro a hE
      replace hE := hE.cast 21 rfl (show _ = Value.agg ([[.bool h.v0.1], [.int .u64 ((h.v0.2.1 : Nat) : Int)], bv h.v0.2.2.1, bv h.v0.2.2.2, [.bool h.v1.1], [.int .u64 ((h.v1.2.1 : Nat) : Int)], bv h.v1.2.2.1, bv h.v1.2.2.2] : List (List Value)).flatten.toArray from (by first | rfl | simp only [List.flatten_cons, List.flatten_nil, List.append_nil, List.append_assoc]))
      refine s_move hE rfl rfl ?_; clear hE a; intro a hE
      refine q_nil ?_
      replace hE : Env a 60 [(1, _), (2, _), (3, _), (21, _), (22, _)] := hE.sel [1, 2, 3, 21, 22] rfl
      refine hK4 _ _ ?_
      refine wp_block ?_
      replace hM := Mem.ownB (p := ([67, 65, 83, 69, 77, 65, 84, 49] ++ laid 1 h.m.toNat) ++ laid 1 h.r.toNat) (q := lP0 h) hM (by simp [lP0, layV, layS, magicH])
      refine wp_loop_rounds 3 (c_rounds ?_)
      refine wp_seq_k (fun K5 hK5 => ?_)
      refine wp_plain [true] rfl rfl ?_
      refine s_bin hE rfl rfl bin_lss rfl ?_; clear hE a; intro a hE
      replace hE := hE.cast 23 rfl (show _ = Value.bool true from (congrArg Value.bool (by decide)))
      refine q_nil ?_
      refine hK5 _ _ ?_
      refine wp_seq_k (fun K6 hK6 => ?_)
      refine wp_cond_true (hE.eval rfl) ?_
      refine wp_skip ?_
      refine hK6 _ _ ?_
      refine wp_seq_k (fun K7 hK7 => ?_)
      refine wp_block ?_
      refine wp_seq_k (fun K8 hK8 => ?_)
      refine wp_plain [true, false, false] rfl rfl ?_
      have hil111_2 : h.v0.2.2.1.length = 32 := hk.v0.2.1
      have hil111_3 : h.v0.2.2.2.length = 32 := hk.v0.2.2
      have hil111_6 : h.v1.2.2.1.length = 32 := hk.v1.2.1
      have hil111_7 : h.v1.2.2.2.length = 32 := hk.v1.2.2
      refine s_indexAgg (j := 0) hE rfl rfl Try.underlying32 row31 rfl (by decide) rfl ?_; clear hE a; intro a hE
      replace hE := hE.cast 24 rfl (show _ = Value.agg ([[.bool h.v0.1], [.int .u64 ((h.v0.2.1 : Nat) : Int)], bv h.v0.2.2.1, bv h.v0.2.2.2] : List (List Value)).flatten.toArray from congrArg (fun l : List Value => Value.agg l.toArray) (flat_seg (ps := []) (qs := [[.bool h.v0.1], [.int .u64 ((h.v0.2.1 : Nat) : Int)], bv h.v0.2.2.1, bv h.v0.2.2.2]) (rs := [[.bool h.v1.1], [.int .u64 ((h.v1.2.1 : Nat) : Int)], bv h.v1.2.2.1, bv h.v1.2.2.2]) (by simp only [List.map_cons, List.map_nil, bv_length, List.length_cons, List.length_nil, List.length_replicate, hil111_2, hil111_3, hil111_6, hil111_7]; rfl) (by simp only [List.map_cons, List.map_nil, bv_length, List.length_cons, List.length_nil, List.length_replicate, hil111_2, hil111_3, hil111_6, hil111_7]; rfl)))
      refine s_alloc [1, 1, 32, 32] hE hM zeroL31 rfl rfl ?_; clear hE a; intro a b5 w7 hE hM'
      clear hM; have hM := hM'; clear hM'
      have hsl119_2 : h.v0.2.2.1.length = 32 := hk.v0.2.1
      have hsl119_3 : h.v0.2.2.2.length = 32 := hk.v0.2.2
      refine s_storeSegs 0 4 (vss := [[.bool h.v0.1], [.int .u64 ((h.v0.2.1 : Nat) : Int)], bv h.v0.2.2.1, bv h.v0.2.2.2]) hE rfl rfl hM rfl sz31 (by simp only [List.take_succ_cons, List.take_zero, List.drop_zero, List.drop_succ_cons]; simp only [List.map_cons, List.map_nil, bv_length, List.length_cons, List.length_nil, List.length_replicate, hsl119_2, hsl119_3]) (by decide) rfl (one_fl ⟨one1 rfl, one1 rfl, bv_one _, bv_one _, trivial⟩) rfl (by intro X h; cases h) ?_; intro w8 hM'; clear hM; have hM := hM'; clear hM'
      try simp only [List.take_zero, List.take_succ_cons, List.drop_zero, List.drop_succ_cons, List.take_nil, List.drop_nil, List.nil_append, List.append_nil, List.cons_append] at hM
      refine q_nil ?_
      replace hE : Env a 60 [(1, _), (2, _), (3, _), (5, _), (21, _), (22, _), (23, _)] := hE.sel [1, 2, 3, 5, 21, 22, 23] rfl
      refine hK8 _ _ ?_
      refine wp_drawnM hM (by kernel_rfl) (fun _ => False) [(0, true), (1, true), (2, true), (5, true), (6, true), (8, true), (9, true), (3, false), (4, false), (7, false), (10, false), (11, true)] [(3, [(4, 3), (7, 4), (10, 7), (11, 3)]), (4, [(7, 4), (10, 7), (11, 4)]), (7, [(10, 7), (11, 7)]), (10, [(11, 10)])] (by kernel_rfl) rfl ?_
      intro w9 hM' hww9; clear hM; have hM := hM'; clear hM'
      refine s_move hE rfl rfl ?_; clear hE a; intro a hE
      refine s_fieldAddr hE rfl fo31_0 rfl ?_; clear hE a; intro a hE
      refine s_load1 hE rfl (hM.get 0 rfl) rfl one4 (by intro X h; cases h; simp) rfl ?_; clear hE a; intro a hE
      refine s_fieldAddr hE rfl fo31_1 rfl ?_; clear hE a; intro a hE
      refine s_load1 hE rfl (hM.get 0 rfl) rfl one24 (by intro X h; cases h; simp) rfl ?_; clear hE a; intro a hE
      refine s_fieldAddr hE rfl fo31_2 rfl ?_; clear hE a; intro a hE
      refine s_loadN hE rfl (hM.get 0 rfl) row29 rfl (by intro X h; cases h; simp) rfl ?_; clear hE a; intro a hE
      replace hE := hE.cast 34 rfl (show _ = Value.agg ([bv h.v0.2.2.1, bv h.v0.2.2.2] : List (List Value)).flatten.toArray from (by first | rfl | simp only [List.flatten_cons, List.flatten_nil, List.append_nil, List.append_assoc]))
      refine s_call hE rfl Try.call33 (hflag_c h.v0.1 _) rfl ?_
      rintro e w10 ⟨rfl, hN⟩
      refine ⟨_, rfl, hN.sta0 _, ?_⟩; clear hE a; intro a hE
      replace hM : Mem _ _ w10 [_, _, _, _, _] := hM.call0 hN trivial; clear hN
      obtain ⟨cq3, hq3⟩ := own_rd (hM.get 1 rfl)
      have hLb3 : ((lP0 h) ++ laid 1 (flagN h.v0.1)).length = 10 + 1 := (by have hl_q : (lP0 h).length = 10 := (lP0_len); rw [List.length_append, laid_length]; try omega)
      refine s_call hE rfl Try.call31 (hnum_c _ (lP0 h) _ 1 (flagN h.v0.1) _ hq3 (by decide) (by first | exact .inl (by decide) | exact .inr (by omega) | exact .inr flag_lt) (by have hl_0 : (lP0 h).length = 10 := (lP0_len); first | omega | assumption | (simp; done) | (simp; omega) | decide)) rfl ?_
      rintro e w11 ⟨v29, rfl, hN⟩
      refine ⟨_, rfl, hN.sta0 _, ?_⟩; clear hE a; intro a hE
      replace hM : Mem _ _ w11 [_, _, _, _, _, _] := hM.call0 hN ⟨rfl, trivial⟩; clear hN
      obtain ⟨cq4, hq4⟩ := own_rd (hM.get 0 rfl)
      have hLb4 : (((lP0 h) ++ laid 1 (flagN h.v0.1)) ++ laid 8 h.v0.2.1).length = 10 + 1 + 8 := (by have hl_q : ((lP0 h) ++ laid 1 (flagN h.v0.1)).length = 10 + 1 := hLb3; rw [List.length_append, laid_length]; try omega)
      refine s_call hE rfl Try.call31 (hnum_c _ ((lP0 h) ++ laid 1 (flagN h.v0.1)) _ 8 h.v0.2.1 _ hq4 (by decide) (by first | exact .inl (by decide) | exact .inr (by omega) | exact .inr flag_lt) (by have hl_0 : ((lP0 h) ++ laid 1 (flagN h.v0.1)).length = 10 + 1 := hLb3; first | omega | assumption | (simp; done) | (simp; omega) | decide)) rfl ?_
      rintro e w12 ⟨v32, rfl, hN⟩
      refine ⟨_, rfl, hN.sta0 _, ?_⟩; clear hE a; intro a hE
      replace hM : Mem _ _ w12 [_, _, _, _, _, _, _] := hM.call0 hN ⟨rfl, trivial⟩; clear hN
      obtain ⟨cq5, hq5⟩ := own_rd (hM.get 0 rfl)
      have hLb5 : (((((lP0 h) ++ laid 1 (flagN h.v0.1)) ++ laid 8 h.v0.2.1) ++ h.v0.2.2.1) ++ h.v0.2.2.2).length = 10 + 1 + 8 + 64 := (by have hl_q : (((lP0 h) ++ laid 1 (flagN h.v0.1)) ++ laid 8 h.v0.2.1).length = 10 + 1 + 8 := hLb4; have hl_stx : h.v0.2.2.1.length = 32 := hk.v0.2.1; have hl_sty : h.v0.2.2.2.length = 32 := hk.v0.2.2; rw [List.length_append, List.length_append]; omega)
      refine s_call hE rfl Try.call32 (boxput_c _ (((lP0 h) ++ laid 1 (flagN h.v0.1)) ++ laid 8 h.v0.2.1) _ h.v0.2.2.1 h.v0.2.2.2 _ hq5 hk.v0.2.1 hk.v0.2.2 (by have hl_0 : (((lP0 h) ++ laid 1 (flagN h.v0.1)) ++ laid 8 h.v0.2.1).length = 10 + 1 + 8 := hLb4; have hl_1x : h.v0.2.2.1.length = 32 := hk.v0.2.1; have hl_1y : h.v0.2.2.2.length = 32 := hk.v0.2.2; first | omega | assumption | (simp; done) | (simp; omega) | decide)) rfl ?_
      rintro e w13 ⟨v35, rfl, hN⟩
      refine ⟨_, rfl, hN.sta0 _, ?_⟩; clear hE a; intro a hE
      replace hM : Mem _ _ w13 [_, _, _, _, _, _, _, _] := hM.call0 hN ⟨rfl, trivial⟩; clear hN
      refine s_assign hE rfl rfl ?_; clear hE a; intro a hE
      refine q_nil ?_
      replace hE : Env a 60 [(1, _), (2, _), (3, _), (5, _), (21, _), (22, _), (23, _)] := hE.sel [1, 2, 3, 5, 21, 22, 23] rfl
      refine q_block_n ?_
      refine hK7 _ _ ?_
      refine wp_plain [true, true] rfl rfl ?_
      refine s_bin hE rfl rfl (show Bin _ _ _ _ _ (.int .i64 1) from bin_add (by rw [wrap_i64 (by omega) (by omega)]; omega)) rfl ?_; clear hE a; intro a hE
      refine s_move hE rfl rfl ?_; clear hE a; intro a hE
      refine q_nil ?_
      replace hE : Env a 60 [(1, _), (2, _), (3, _), (5, _), (21, _), (22, _), (23, _)] := hE.sel [1, 2, 3, 5, 21, 22, 23] rfl
      replace hM := Mem.ownB (p := ((((lP0 h) ++ laid 1 (flagN h.v0.1)) ++ laid 8 h.v0.2.1) ++ h.v0.2.2.1) ++ h.v0.2.2.2) (q := lP1 h) hM (by simp [lP1, layV, layS, magicH])
      replace hM : Mem _ _ w13 [_, _, _, _, _, _] := hM.pick [0, 3, 4, 5, 6, 7] rfl
      refine q_then_n (c_rounds ?_)
      refine wp_seq_k (fun K9 hK9 => ?_)
      refine wp_plain [true] rfl rfl ?_
      refine s_bin hE rfl rfl bin_lss rfl ?_; clear hE a; intro a hE
      replace hE := hE.cast 23 rfl (show _ = Value.bool true from (congrArg Value.bool (by decide)))
      refine q_nil ?_
      refine hK9 _ _ ?_
      refine wp_seq_k (fun K10 hK10 => ?_)
      refine wp_cond_true (hE.eval rfl) ?_
      refine wp_skip ?_
      refine hK10 _ _ ?_
      refine wp_seq_k (fun K11 hK11 => ?_)
      refine wp_block ?_
      refine wp_seq_k (fun K12 hK12 => ?_)
      refine wp_plain [true, false, false] rfl rfl ?_
      have hil185_2 : h.v0.2.2.1.length = 32 := hk.v0.2.1
      have hil185_3 : h.v0.2.2.2.length = 32 := hk.v0.2.2
      have hil185_6 : h.v1.2.2.1.length = 32 := hk.v1.2.1
      have hil185_7 : h.v1.2.2.2.length = 32 := hk.v1.2.2
      refine s_indexAgg (j := 1) hE rfl rfl Try.underlying32 row31 rfl (by decide) rfl ?_; clear hE a; intro a hE
      replace hE := hE.cast 24 rfl (show _ = Value.agg ([[.bool h.v1.1], [.int .u64 ((h.v1.2.1 : Nat) : Int)], bv h.v1.2.2.1, bv h.v1.2.2.2] : List (List Value)).flatten.toArray from congrArg (fun l : List Value => Value.agg l.toArray) (flat_seg (ps := [[.bool h.v0.1], [.int .u64 ((h.v0.2.1 : Nat) : Int)], bv h.v0.2.2.1, bv h.v0.2.2.2]) (qs := [[.bool h.v1.1], [.int .u64 ((h.v1.2.1 : Nat) : Int)], bv h.v1.2.2.1, bv h.v1.2.2.2]) (rs := []) (by simp only [List.map_cons, List.map_nil, bv_length, List.length_cons, List.length_nil, List.length_replicate, hil185_2, hil185_3, hil185_6, hil185_7]; rfl) (by simp only [List.map_cons, List.map_nil, bv_length, List.length_cons, List.length_nil, List.length_replicate, hil185_2, hil185_3, hil185_6, hil185_7]; rfl)))
      refine s_alloc [1, 1, 32, 32] hE hM zeroL31 rfl rfl ?_; clear hE a; intro a b5 w14 hE hM'
      clear hM; have hM := hM'; clear hM'
      have hsl193_2 : h.v1.2.2.1.length = 32 := hk.v1.2.1
      have hsl193_3 : h.v1.2.2.2.length = 32 := hk.v1.2.2
      replace hM : Mem _ _ w14 [_, _, _, _, _, _] := hM.pick [0, 1, 3, 4, 5, 6] rfl
      refine s_storeSegs 0 4 (vss := [[.bool h.v1.1], [.int .u64 ((h.v1.2.1 : Nat) : Int)], bv h.v1.2.2.1, bv h.v1.2.2.2]) hE rfl rfl hM rfl sz31 (by simp only [List.take_succ_cons, List.take_zero, List.drop_zero, List.drop_succ_cons]; simp only [List.map_cons, List.map_nil, bv_length, List.length_cons, List.length_nil, List.length_replicate, hsl193_2, hsl193_3]) (by decide) rfl (one_fl ⟨one1 rfl, one1 rfl, bv_one _, bv_one _, trivial⟩) rfl (by intro X h; cases h) ?_; intro w15 hM'; clear hM; have hM := hM'; clear hM'
      try simp only [List.take_zero, List.take_succ_cons, List.drop_zero, List.drop_succ_cons, List.take_nil, List.drop_nil, List.nil_append, List.append_nil, List.cons_append] at hM
      refine q_nil ?_
      replace hE : Env a 60 [(1, _), (2, _), (3, _), (5, _), (21, _), (22, _), (23, _)] := hE.sel [1, 2, 3, 5, 21, 22, 23] rfl
      refine hK12 _ _ ?_
      refine wp_drawnM hM (by kernel_rfl) (fun _ => False) [(0, true), (1, true), (2, true), (5, true), (6, true), (8, true), (9, true), (3, false), (4, false), (7, false), (10, false), (11, true)] [(3, [(4, 3), (7, 4), (10, 7), (11, 3)]), (4, [(7, 4), (10, 7), (11, 4)]), (7, [(10, 7), (11, 7)]), (10, [(11, 10)])] (by kernel_rfl) rfl ?_
      intro w16 hM' hww16; clear hM; have hM := hM'; clear hM'
      refine s_move hE rfl rfl ?_; clear hE a; intro a hE
      refine s_fieldAddr hE rfl fo31_0 rfl ?_; clear hE a; intro a hE
      refine s_load1 hE rfl (hM.get 0 rfl) rfl one4 (by intro X h; cases h; simp) rfl ?_; clear hE a; intro a hE
      refine s_fieldAddr hE rfl fo31_1 rfl ?_; clear hE a; intro a hE
      refine s_load1 hE rfl (hM.get 0 rfl) rfl one24 (by intro X h; cases h; simp) rfl ?_; clear hE a; intro a hE
      refine s_fieldAddr hE rfl fo31_2 rfl ?_; clear hE a; intro a hE
      refine s_loadN hE rfl (hM.get 0 rfl) row29 rfl (by intro X h; cases h; simp) rfl ?_; clear hE a; intro a hE
      replace hE := hE.cast 34 rfl (show _ = Value.agg ([bv h.v1.2.2.1, bv h.v1.2.2.2] : List (List Value)).flatten.toArray from (by first | rfl | simp only [List.flatten_cons, List.flatten_nil, List.append_nil, List.append_assoc]))
      refine s_call hE rfl Try.call33 (hflag_c h.v1.1 _) rfl ?_
      rintro e w17 ⟨rfl, hN⟩
      refine ⟨_, rfl, hN.sta0 _, ?_⟩; clear hE a; intro a hE
      replace hM : Mem _ _ w17 [_, _, _, _, _, _] := hM.call0 hN trivial; clear hN
      obtain ⟨cq6, hq6⟩ := own_rd (hM.get 1 rfl)
      have hLb6 : ((lP1 h) ++ laid 1 (flagN h.v1.1)).length = 83 + 1 := (by have hl_q : (lP1 h).length = 83 := (lP1_len hk); rw [List.length_append, laid_length]; try omega)
      refine s_call hE rfl Try.call31 (hnum_c _ (lP1 h) _ 1 (flagN h.v1.1) _ hq6 (by decide) (by first | exact .inl (by decide) | exact .inr (by omega) | exact .inr flag_lt) (by have hl_0 : (lP1 h).length = 83 := (lP1_len hk); first | omega | assumption | (simp; done) | (simp; omega) | decide)) rfl ?_
      rintro e w18 ⟨v29, rfl, hN⟩
      refine ⟨_, rfl, hN.sta0 _, ?_⟩; clear hE a; intro a hE
      replace hM : Mem _ _ w18 [_, _, _, _, _, _, _] := hM.call0 hN ⟨rfl, trivial⟩; clear hN
      obtain ⟨cq7, hq7⟩ := own_rd (hM.get 0 rfl)
      have hLb7 : (((lP1 h) ++ laid 1 (flagN h.v1.1)) ++ laid 8 h.v1.2.1).length = 83 + 1 + 8 := (by have hl_q : ((lP1 h) ++ laid 1 (flagN h.v1.1)).length = 83 + 1 := hLb6; rw [List.length_append, laid_length]; try omega)
      refine s_call hE rfl Try.call31 (hnum_c _ ((lP1 h) ++ laid 1 (flagN h.v1.1)) _ 8 h.v1.2.1 _ hq7 (by decide) (by first | exact .inl (by decide) | exact .inr (by omega) | exact .inr flag_lt) (by have hl_0 : ((lP1 h) ++ laid 1 (flagN h.v1.1)).length = 83 + 1 := hLb6; first | omega | assumption | (simp; done) | (simp; omega) | decide)) rfl ?_
      rintro e w19 ⟨v32, rfl, hN⟩
      refine ⟨_, rfl, hN.sta0 _, ?_⟩; clear hE a; intro a hE
      replace hM : Mem _ _ w19 [_, _, _, _, _, _, _, _] := hM.call0 hN ⟨rfl, trivial⟩; clear hN
      obtain ⟨cq8, hq8⟩ := own_rd (hM.get 0 rfl)
      have hLb8 : (((((lP1 h) ++ laid 1 (flagN h.v1.1)) ++ laid 8 h.v1.2.1) ++ h.v1.2.2.1) ++ h.v1.2.2.2).length = 83 + 1 + 8 + 64 := (by have hl_q : (((lP1 h) ++ laid 1 (flagN h.v1.1)) ++ laid 8 h.v1.2.1).length = 83 + 1 + 8 := hLb7; have hl_stx : h.v1.2.2.1.length = 32 := hk.v1.2.1; have hl_sty : h.v1.2.2.2.length = 32 := hk.v1.2.2; rw [List.length_append, List.length_append]; omega)
      refine s_call hE rfl Try.call32 (boxput_c _ (((lP1 h) ++ laid 1 (flagN h.v1.1)) ++ laid 8 h.v1.2.1) _ h.v1.2.2.1 h.v1.2.2.2 _ hq8 hk.v1.2.1 hk.v1.2.2 (by have hl_0 : (((lP1 h) ++ laid 1 (flagN h.v1.1)) ++ laid 8 h.v1.2.1).length = 83 + 1 + 8 := hLb7; have hl_1x : h.v1.2.2.1.length = 32 := hk.v1.2.1; have hl_1y : h.v1.2.2.2.length = 32 := hk.v1.2.2; first | omega | assumption | (simp; done) | (simp; omega) | decide)) rfl ?_
      rintro e w20 ⟨v35, rfl, hN⟩
      refine ⟨_, rfl, hN.sta0 _, ?_⟩; clear hE a; intro a hE
      replace hM : Mem _ _ w20 [_, _, _, _, _, _, _, _, _] := hM.call0 hN ⟨rfl, trivial⟩; clear hN
      refine s_assign hE rfl rfl ?_; clear hE a; intro a hE
      refine q_nil ?_
      replace hE : Env a 60 [(1, _), (2, _), (3, _), (5, _), (21, _), (22, _), (23, _)] := hE.sel [1, 2, 3, 5, 21, 22, 23] rfl
      refine q_block_n ?_
      refine hK11 _ _ ?_
      refine wp_plain [true, true] rfl rfl ?_
      refine s_bin hE rfl rfl (show Bin _ _ _ _ _ (.int .i64 2) from bin_add (by rw [wrap_i64 (by omega) (by omega)]; omega)) rfl ?_; clear hE a; intro a hE
      refine s_move hE rfl rfl ?_; clear hE a; intro a hE
      refine q_nil ?_
      replace hE : Env a 60 [(1, _), (2, _), (3, _), (5, _), (21, _), (22, _), (23, _)] := hE.sel [1, 2, 3, 5, 21, 22, 23] rfl
      replace hM : Mem _ _ w20 [_, _, _, _, _, _, _, _] := hM.pick [0, 1, 2, 3, 5, 6, 7, 8] rfl
      replace hM := Mem.ownB (p := ((((lP1 h) ++ laid 1 (flagN h.v1.1)) ++ laid 8 h.v1.2.1) ++ h.v1.2.2.1) ++ h.v1.2.2.2) (q := lP2 h) hM (by simp [lP2, layV, layS, magicH])
      replace hM : Mem _ _ w20 [_, _, _, _, _, _] := hM.pick [0, 3, 4, 5, 6, 7] rfl
      refine q_then_n (c_rounds ?_)
      refine wp_seq_k (fun K13 hK13 => ?_)
      refine wp_plain [true] rfl rfl ?_
      refine s_bin hE rfl rfl bin_lss rfl ?_; clear hE a; intro a hE
      replace hE := hE.cast 23 rfl (show _ = Value.bool false from (congrArg Value.bool (by decide)))
      refine q_nil ?_
      refine hK13 _ _ ?_
      refine wp_seq_k (fun K14 hK14 => ?_)
      refine wp_cond_false (hE.eval rfl) ?_
      refine wp_exit ?_
      refine q_then_e ?_
      refine q_then_e ?_
      refine q_block_x ?_
      refine hK3 _ _ ?_
      refine wp_seq_k (fun K15 hK15 => ?_)
      refine wp_seq_k (fun K16 hK16 => ?_)
      refine wp_plain [true, true, true] rfl rfl ?_
      refine s_fieldAddr hE rfl fo39_2 rfl ?_; clear hE a; intro a hE
      refine s_loadN hE rfl (hM.get 5 rfl) row37 rfl (by intro X h; cases h) rfl ?_; clear hE a; intro a hE
      replace hE := hE.cast 38 rfl (show _ = Value.agg ([[.bool h.s0.1], [.int .i64 h.s0.2.1], bv h.s0.2.2.1, bv h.s0.2.2.2.1, bv h.s0.2.2.2.2, [.bool h.s1.1], [.int .i64 h.s1.2.1], bv h.s1.2.2.1, bv h.s1.2.2.2.1, bv h.s1.2.2.2.2, [.bool h.s2.1], [.int .i64 h.s2.2.1], bv h.s2.2.2.1, bv h.s2.2.2.2.1, bv h.s2.2.2.2.2, [.bool h.s3.1], [.int .i64 h.s3.2.1], bv h.s3.2.2.1, bv h.s3.2.2.2.1, bv h.s3.2.2.2.2] : List (List Value)).flatten.toArray from (by first | rfl | simp only [List.flatten_cons, List.flatten_nil, List.append_nil, List.append_assoc]))
      refine s_move hE rfl rfl ?_; clear hE a; intro a hE
      refine q_nil ?_
      replace hE : Env a 60 [(1, _), (2, _), (3, _), (5, _), (21, _), (22, _), (23, _), (38, _), (39, _)] := hE.sel [1, 2, 3, 5, 21, 22, 23, 38, 39] rfl
      refine hK16 _ _ ?_
      refine wp_block ?_
      refine wp_loop_rounds 5 (c_rounds ?_)
      refine wp_seq_k (fun K17 hK17 => ?_)
      refine wp_plain [true] rfl rfl ?_
      refine s_bin hE rfl rfl bin_lss rfl ?_; clear hE a; intro a hE
      replace hE := hE.cast 40 rfl (show _ = Value.bool true from (congrArg Value.bool (by decide)))
      refine q_nil ?_
      refine hK17 _ _ ?_
      refine wp_seq_k (fun K18 hK18 => ?_)
      refine wp_cond_true (hE.eval rfl) ?_
      refine wp_skip ?_
      refine hK18 _ _ ?_
      refine wp_seq_k (fun K19 hK19 => ?_)
      refine wp_block ?_
      refine wp_seq_k (fun K20 hK20 => ?_)
      refine wp_plain [true, false, false] rfl rfl ?_
      have hil286_2 : h.s0.2.2.1.length = 16 := hk.s0.2.1
      have hil286_3 : h.s0.2.2.2.1.length = 32 := hk.s0.2.2.1
      have hil286_4 : h.s0.2.2.2.2.length = 32 := hk.s0.2.2.2
      have hil286_7 : h.s1.2.2.1.length = 16 := hk.s1.2.1
      have hil286_8 : h.s1.2.2.2.1.length = 32 := hk.s1.2.2.1
      have hil286_9 : h.s1.2.2.2.2.length = 32 := hk.s1.2.2.2
      have hil286_12 : h.s2.2.2.1.length = 16 := hk.s2.2.1
      have hil286_13 : h.s2.2.2.2.1.length = 32 := hk.s2.2.2.1
      have hil286_14 : h.s2.2.2.2.2.length = 32 := hk.s2.2.2.2
      have hil286_17 : h.s3.2.2.1.length = 16 := hk.s3.2.1
      have hil286_18 : h.s3.2.2.2.1.length = 32 := hk.s3.2.2.1
      have hil286_19 : h.s3.2.2.2.2.length = 32 := hk.s3.2.2.2
      refine s_indexAgg (j := 0) hE rfl rfl Try.underlying37 row36 rfl (by decide) rfl ?_; clear hE a; intro a hE
      replace hE := hE.cast 41 rfl (show _ = Value.agg ([[.bool h.s0.1], [.int .i64 h.s0.2.1], bv h.s0.2.2.1, bv h.s0.2.2.2.1, bv h.s0.2.2.2.2] : List (List Value)).flatten.toArray from congrArg (fun l : List Value => Value.agg l.toArray) (flat_seg (ps := []) (qs := [[.bool h.s0.1], [.int .i64 h.s0.2.1], bv h.s0.2.2.1, bv h.s0.2.2.2.1, bv h.s0.2.2.2.2]) (rs := [[.bool h.s1.1], [.int .i64 h.s1.2.1], bv h.s1.2.2.1, bv h.s1.2.2.2.1, bv h.s1.2.2.2.2, [.bool h.s2.1], [.int .i64 h.s2.2.1], bv h.s2.2.2.1, bv h.s2.2.2.2.1, bv h.s2.2.2.2.2, [.bool h.s3.1], [.int .i64 h.s3.2.1], bv h.s3.2.2.1, bv h.s3.2.2.2.1, bv h.s3.2.2.2.2]) (by simp only [List.map_cons, List.map_nil, bv_length, List.length_cons, List.length_nil, List.length_replicate, hil286_2, hil286_3, hil286_4, hil286_7, hil286_8, hil286_9, hil286_12, hil286_13, hil286_14, hil286_17, hil286_18, hil286_19]; rfl) (by simp only [List.map_cons, List.map_nil, bv_length, List.length_cons, List.length_nil, List.length_replicate, hil286_2, hil286_3, hil286_4, hil286_7, hil286_8, hil286_9, hil286_12, hil286_13, hil286_14, hil286_17, hil286_18, hil286_19]; rfl)))
      refine s_alloc [1, 1, 16, 32, 32] hE hM zeroL36 rfl rfl ?_; clear hE a; intro a b7 w21 hE hM'
      clear hM; have hM := hM'; clear hM'
      have hsl302_2 : h.s0.2.2.1.length = 16 := hk.s0.2.1
      have hsl302_3 : h.s0.2.2.2.1.length = 32 := hk.s0.2.2.1
      have hsl302_4 : h.s0.2.2.2.2.length = 32 := hk.s0.2.2.2
      refine s_storeSegs 0 5 (vss := [[.bool h.s0.1], [.int .i64 h.s0.2.1], bv h.s0.2.2.1, bv h.s0.2.2.2.1, bv h.s0.2.2.2.2]) hE rfl rfl hM rfl sz36 (by simp only [List.take_succ_cons, List.take_zero, List.drop_zero, List.drop_succ_cons]; simp only [List.map_cons, List.map_nil, bv_length, List.length_cons, List.length_nil, List.length_replicate, hsl302_2, hsl302_3, hsl302_4]) (by decide) rfl (one_fl ⟨one1 rfl, one1 rfl, bv_one _, bv_one _, bv_one _, trivial⟩) rfl (by intro X h; cases h) ?_; intro w22 hM'; clear hM; have hM := hM'; clear hM'
      try simp only [List.take_zero, List.take_succ_cons, List.drop_zero, List.drop_succ_cons, List.take_nil, List.drop_nil, List.nil_append, List.append_nil, List.cons_append] at hM
      refine q_nil ?_
      replace hE : Env a 60 [(1, _), (2, _), (3, _), (5, _), (7, _), (21, _), (22, _), (23, _), (38, _), (39, _), (40, _)] := hE.sel [1, 2, 3, 5, 7, 21, 22, 23, 38, 39, 40] rfl
      refine hK20 _ _ ?_
      refine wp_seq_k (fun K21 hK21 => ?_)
      refine wp_drawnM hM (by kernel_rfl) (fun _ => False) [(0, true), (1, true), (2, true), (5, true), (6, true), (7, true), (3, false), (4, false), (8, false), (9, true)] [(3, [(4, 3), (8, 4), (9, 3)]), (4, [(8, 4), (9, 4)]), (8, [(9, 8)])] (by kernel_rfl) rfl ?_
      intro w23 hM' hww23; clear hM; have hM := hM'; clear hM'
      refine s_move hE rfl rfl ?_; clear hE a; intro a hE
      refine s_fieldAddr hE rfl fo36_0 rfl ?_; clear hE a; intro a hE
      refine s_load1 hE rfl (hM.get 0 rfl) rfl one4 (by intro X h; cases h; simp) rfl ?_; clear hE a; intro a hE
      refine s_fieldAddr hE rfl fo36_1 rfl ?_; clear hE a; intro a hE
      refine s_load1 hE rfl (hM.get 0 rfl) rfl one3 (by intro X h; cases h; simp) rfl ?_; clear hE a; intro a hE
      refine s_conv hE rfl (cnv_int Try.underlying3 Try.underlying24 (wrap_u64_toNat (z := h.s0.2.1) (by omega) (by omega))) rfl ?_; clear hE a; intro a hE
      refine s_call hE rfl Try.call33 (hflag_c h.s0.1 _) rfl ?_
      rintro e w24 ⟨rfl, hN⟩
      refine ⟨_, rfl, hN.sta0 _, ?_⟩; clear hE a; intro a hE
      replace hM : Mem _ _ w24 [_, _, _, _, _, _, _] := hM.call0 hN trivial; clear hN
      obtain ⟨cq9, hq9⟩ := own_rd (hM.get 1 rfl)
      have hLb9 : ((lP2 h) ++ laid 1 (flagN h.s0.1)).length = 156 + 1 := (by have hl_q : (lP2 h).length = 156 := (lP2_len hk); rw [List.length_append, laid_length]; try omega)
      refine s_call hE rfl Try.call31 (hnum_c _ (lP2 h) _ 1 (flagN h.s0.1) _ hq9 (by decide) (by first | exact .inl (by decide) | exact .inr (by omega) | exact .inr flag_lt) (by have hl_0 : (lP2 h).length = 156 := (lP2_len hk); first | omega | assumption | (simp; done) | (simp; omega) | decide)) rfl ?_
      rintro e w25 ⟨v46, rfl, hN⟩
      refine ⟨_, rfl, hN.sta0 _, ?_⟩; clear hE a; intro a hE
      replace hM : Mem _ _ w25 [_, _, _, _, _, _, _, _] := hM.call0 hN ⟨rfl, trivial⟩; clear hN
      obtain ⟨cq10, hq10⟩ := own_rd (hM.get 0 rfl)
      have hLb10 : (((lP2 h) ++ laid 1 (flagN h.s0.1)) ++ laid 4 h.s0.2.1.toNat).length = 156 + 1 + 4 := (by have hl_q : ((lP2 h) ++ laid 1 (flagN h.s0.1)).length = 156 + 1 := hLb9; rw [List.length_append, laid_length]; try omega)
      refine s_call hE rfl Try.call31 (hnum_c _ ((lP2 h) ++ laid 1 (flagN h.s0.1)) _ 4 h.s0.2.1.toNat _ hq10 (by decide) (by first | exact .inl (by decide) | exact .inr (by omega) | exact .inr flag_lt) (by have hl_0 : ((lP2 h) ++ laid 1 (flagN h.s0.1)).length = 156 + 1 := hLb9; first | omega | assumption | (simp; done) | (simp; omega) | decide)) rfl ?_
      rintro e w26 ⟨v50, rfl, hN⟩
      refine ⟨_, rfl, hN.sta0 _, ?_⟩; clear hE a; intro a hE
      replace hM : Mem _ _ w26 [_, _, _, _, _, _, _, _, _] := hM.call0 hN ⟨rfl, trivial⟩; clear hN
      refine s_assign hE rfl rfl ?_; clear hE a; intro a hE
      refine q_nil ?_
      replace hE : Env a 60 [(1, _), (2, _), (3, _), (5, _), (7, _), (21, _), (22, _), (23, _), (38, _), (39, _), (40, _)] := hE.sel [1, 2, 3, 5, 7, 21, 22, 23, 38, 39, 40] rfl
      refine hK21 _ _ ?_
      refine wp_treeM hM (by kernel_rfl) (fun _ => True) (fun _ => True) (.re [(0, true), (1, true), (2, true), (4, true), (5, true), (3, false), (6, false), (7, true)] (.fl 4 (.weak (.fl 1 (.or 3 (.cut (.re [(6, false), (7, true)] (.weak (.leaf 2)))) (.stop)))))) [(0, true), (1, true), (2, true), (4, true), (5, true), (3, false), (6, false), (7, true)] [(1, [(2, 1), (3, 2), (6, 3), (7, 1)]), (2, [(3, 2), (6, 3), (7, 2)]), (3, [(6, 3), (7, 3)]), (4, [(5, 4), (6, 5), (7, 4)]), (5, [(6, 5), (7, 5)]), (6, [(7, 6)])] (by kernel_rfl) ?_
      intro w27 hM' hww27; clear hM; have hM := hM'; clear hM'
      refine o_re ?_
      refine o_fl rfl ?_
      refine s_move hE rfl rfl ?_; clear hE a; intro a hE
      refine s_fieldAddr hE rfl fo36_2 rfl ?_; clear hE a; intro a hE
      refine s_sliceArr (l := 0) (h := 16) (mx' := 16) hE rfl arr34 rfl rfl rfl (by simp) (by omega) (by omega) (by omega) rfl ?_; clear hE a; intro a hE
      replace hE := hE.cast 53 rfl (show _ = Value.slice (some ⟨b7, 2, none⟩) 16 16 from rfl)
      refine s_fieldAddr hE rfl fo36_3 rfl ?_; clear hE a; intro a hE
      refine q_nil (q_nx ?_)
      refine o_weak (fun b => b ≠ b7) (fun _ _ => trivial) ?_
      refine o_fl rfl ?_
      refine s_loadN hE rfl (hM.get 2 rfl) row29 rfl (by intro X h; cases h; simp) rfl ?_; clear hE a; intro a hE
      replace hE := hE.cast 56 rfl (show _ = Value.agg ([bv h.s0.2.2.2.1, bv h.s0.2.2.2.2] : List (List Value)).flatten.toArray from (by first | rfl | simp only [List.flatten_cons, List.flatten_nil, List.append_nil, List.append_assoc]))
      refine q_nil (q_nx ?_)
      refine o_or rfl ?_ ?_
      · have hLb11 : ((((lP2 h) ++ laid 1 (flagN h.s0.1)) ++ laid 4 h.s0.2.1.toNat) ++ h.s0.2.2.1).length = 156 + 1 + 4 + 16 := (by have hl_p : (((lP2 h) ++ laid 1 (flagN h.s0.1)) ++ laid 4 h.s0.2.1.toNat).length = 156 + 1 + 4 := hLb10; have hl_q : h.s0.2.2.1.length = 16 := hk.s0.2.1; rw [List.length_append]; omega)
        refine s_append hE rfl rfl hM sl55 (Src.rd Try.underlying55 (rd_seg8 (N := 16) (hM.get 2 rfl) rfl hk.s0.2.1) (bv_one _)) (len47 (by have hl_x : (((lP2 h) ++ laid 1 (flagN h.s0.1)) ++ laid 4 h.s0.2.1.toNat).length = 156 + 1 + 4 := hLb10; have hl_y : h.s0.2.2.1.length = 16 := hk.s0.2.1; first | omega | (simp; done) | (simp; omega))) (by have hl_x : (((lP2 h) ++ laid 1 (flagN h.s0.1)) ++ laid 4 h.s0.2.1.toNat).length = 156 + 1 + 4 := hLb10; have hl_y : h.s0.2.2.1.length = 16 := hk.s0.2.1; first | omega | (simp; done) | (simp; omega)) (by intro X h; cases h; intro b hb; exact fun e => ((apart_of_get hM.apart (i := 0) (j := 2) rfl rfl (by decide)).1 b hb).1 (by rw [e]; exact .head _)) rfl ?_; clear hE a; intro a v54 w28 hE hM'; clear hM; have hM := hM'; clear hM'
        replace hM := Mem.ownApp (p := ((lP2 h) ++ laid 1 (flagN h.s0.1)) ++ laid 4 h.s0.2.1.toNat) (q := h.s0.2.2.1) hM (by first | rfl | (simp; done))
        refine q_nil (q_nx ?_)
        refine o_cut (fun _ => True) ?_
        refine o_re ?_
        refine o_weak (fun _ => False) (fun _ _ => trivial) ?_
        refine o_leaf rfl rfl ?_
        obtain ⟨cq11, hq11⟩ := own_rd (hM.get 0 rfl)
        have hLb12 : ((((((lP2 h) ++ laid 1 (flagN h.s0.1)) ++ laid 4 h.s0.2.1.toNat) ++ h.s0.2.2.1) ++ h.s0.2.2.2.1) ++ h.s0.2.2.2.2).length = 156 + 1 + 4 + 16 + 64 := (by have hl_q : ((((lP2 h) ++ laid 1 (flagN h.s0.1)) ++ laid 4 h.s0.2.1.toNat) ++ h.s0.2.2.1).length = 156 + 1 + 4 + 16 := hLb11; have hl_stx : h.s0.2.2.2.1.length = 32 := hk.s0.2.2.1; have hl_sty : h.s0.2.2.2.2.length = 32 := hk.s0.2.2.2; rw [List.length_append, List.length_append]; omega)
        refine s_call hE rfl Try.call32 (boxput_c _ ((((lP2 h) ++ laid 1 (flagN h.s0.1)) ++ laid 4 h.s0.2.1.toNat) ++ h.s0.2.2.1) _ h.s0.2.2.2.1 h.s0.2.2.2.2 _ hq11 hk.s0.2.2.1 hk.s0.2.2.2 (by have hl_0 : ((((lP2 h) ++ laid 1 (flagN h.s0.1)) ++ laid 4 h.s0.2.1.toNat) ++ h.s0.2.2.1).length = 156 + 1 + 4 + 16 := hLb11; have hl_1x : h.s0.2.2.2.1.length = 32 := hk.s0.2.2.1; have hl_1y : h.s0.2.2.2.2.length = 32 := hk.s0.2.2.2; first | omega | assumption | (simp; done) | (simp; omega) | decide)) rfl ?_
        rintro e w29 ⟨v57, rfl, hN⟩
        refine ⟨_, rfl, hN.sta0 _, ?_⟩; clear hE a; intro a hE
        replace hM : Mem _ _ w29 [_, _, _, _, _, _, _, _, _, _] := hM.call0 hN ⟨rfl, trivial⟩; clear hN
        refine s_assign hE rfl rfl ?_; clear hE a; intro a hE
        refine q_nil (q_ph (q_nil ?_))
        replace hE : Env a 60 [(1, _), (2, _), (3, _), (5, _), (7, _), (21, _), (22, _), (23, _), (38, _), (39, _), (40, _)] := hE.sel [1, 2, 3, 5, 7, 21, 22, 23, 38, 39, 40] rfl
        refine q_block_n ?_
        refine hK19 _ _ ?_
        refine wp_plain [true, true] rfl rfl ?_
        refine s_bin hE rfl rfl (show Bin _ _ _ _ _ (.int .i64 1) from bin_add (by rw [wrap_i64 (by omega) (by omega)]; omega)) rfl ?_; clear hE a; intro a hE
        refine s_move hE rfl rfl ?_; clear hE a; intro a hE
        refine q_nil ?_
        replace hE : Env a 60 [(1, _), (2, _), (3, _), (5, _), (7, _), (21, _), (22, _), (23, _), (38, _), (39, _), (40, _)] := hE.sel [1, 2, 3, 5, 7, 21, 22, 23, 38, 39, 40] rfl
        replace hM := Mem.ownB (p := (((((lP2 h) ++ laid 1 (flagN h.s0.1)) ++ laid 4 h.s0.2.1.toNat) ++ h.s0.2.2.1) ++ h.s0.2.2.2.1) ++ h.s0.2.2.2.2) (q := lP3 h) hM (by simp [lP3, layV, layS, magicH])
        replace hM : Mem _ _ w29 [_, _, _, _, _, _, _, _] := hM.pick [0, 3, 4, 5, 6, 7, 8, 9] rfl
        refine q_then_n (c_rounds ?_)
        refine wp_seq_k (fun K22 hK22 => ?_)
        refine wp_plain [true] rfl rfl ?_
        refine s_bin hE rfl rfl bin_lss rfl ?_; clear hE a; intro a hE
        replace hE := hE.cast 40 rfl (show _ = Value.bool true from (congrArg Value.bool (by decide)))
        refine q_nil ?_
        refine hK22 _ _ ?_
        refine wp_seq_k (fun K23 hK23 => ?_)
        refine wp_cond_true (hE.eval rfl) ?_
        refine wp_skip ?_
        refine hK23 _ _ ?_
        refine wp_seq_k (fun K24 hK24 => ?_)
        refine wp_block ?_
        refine wp_seq_k (fun K25 hK25 => ?_)
        refine wp_plain [true, false, false] rfl rfl ?_
        have hil396_2 : h.s0.2.2.1.length = 16 := hk.s0.2.1
        have hil396_3 : h.s0.2.2.2.1.length = 32 := hk.s0.2.2.1
        have hil396_4 : h.s0.2.2.2.2.length = 32 := hk.s0.2.2.2
        have hil396_7 : h.s1.2.2.1.length = 16 := hk.s1.2.1
        have hil396_8 : h.s1.2.2.2.1.length = 32 := hk.s1.2.2.1
        have hil396_9 : h.s1.2.2.2.2.length = 32 := hk.s1.2.2.2
        have hil396_12 : h.s2.2.2.1.length = 16 := hk.s2.2.1
        have hil396_13 : h.s2.2.2.2.1.length = 32 := hk.s2.2.2.1
        have hil396_14 : h.s2.2.2.2.2.length = 32 := hk.s2.2.2.2
        have hil396_17 : h.s3.2.2.1.length = 16 := hk.s3.2.1
        have hil396_18 : h.s3.2.2.2.1.length = 32 := hk.s3.2.2.1
        have hil396_19 : h.s3.2.2.2.2.length = 32 := hk.s3.2.2.2
        refine s_indexAgg (j := 1) hE rfl rfl Try.underlying37 row36 rfl (by decide) rfl ?_; clear hE a; intro a hE
        replace hE := hE.cast 41 rfl (show _ = Value.agg ([[.bool h.s1.1], [.int .i64 h.s1.2.1], bv h.s1.2.2.1, bv h.s1.2.2.2.1, bv h.s1.2.2.2.2] : List (List Value)).flatten.toArray from congrArg (fun l : List Value => Value.agg l.toArray) (flat_seg (ps := [[.bool h.s0.1], [.int .i64 h.s0.2.1], bv h.s0.2.2.1, bv h.s0.2.2.2.1, bv h.s0.2.2.2.2]) (qs := [[.bool h.s1.1], [.int .i64 h.s1.2.1], bv h.s1.2.2.1, bv h.s1.2.2.2.1, bv h.s1.2.2.2.2]) (rs := [[.bool h.s2.1], [.int .i64 h.s2.2.1], bv h.s2.2.2.1, bv h.s2.2.2.2.1, bv h.s2.2.2.2.2, [.bool h.s3.1], [.int .i64 h.s3.2.1], bv h.s3.2.2.1, bv h.s3.2.2.2.1, bv h.s3.2.2.2.2]) (by simp only [List.map_cons, List.map_nil, bv_length, List.length_cons, List.length_nil, List.length_replicate, hil396_2, hil396_3, hil396_4, hil396_7, hil396_8, hil396_9, hil396_12, hil396_13, hil396_14, hil396_17, hil396_18, hil396_19]; rfl) (by simp only [List.map_cons, List.map_nil, bv_length, List.length_cons, List.length_nil, List.length_replicate, hil396_2, hil396_3, hil396_4, hil396_7, hil396_8, hil396_9, hil396_12, hil396_13, hil396_14, hil396_17, hil396_18, hil396_19]; rfl)))
        refine s_alloc [1, 1, 16, 32, 32] hE hM zeroL36 rfl rfl ?_; clear hE a; intro a b7 w30 hE hM'
        clear hM; have hM := hM'; clear hM'
        have hsl412_2 : h.s1.2.2.1.length = 16 := hk.s1.2.1
        have hsl412_3 : h.s1.2.2.2.1.length = 32 := hk.s1.2.2.1
        have hsl412_4 : h.s1.2.2.2.2.length = 32 := hk.s1.2.2.2
        replace hM : Mem _ _ w30 [_, _, _, _, _, _, _, _] := hM.pick [0, 1, 3, 4, 5, 6, 7, 8] rfl
        refine s_storeSegs 0 5 (vss := [[.bool h.s1.1], [.int .i64 h.s1.2.1], bv h.s1.2.2.1, bv h.s1.2.2.2.1, bv h.s1.2.2.2.2]) hE rfl rfl hM rfl sz36 (by simp only [List.take_succ_cons, List.take_zero, List.drop_zero, List.drop_succ_cons]; simp only [List.map_cons, List.map_nil, bv_length, List.length_cons, List.length_nil, List.length_replicate, hsl412_2, hsl412_3, hsl412_4]) (by decide) rfl (one_fl ⟨one1 rfl, one1 rfl, bv_one _, bv_one _, bv_one _, trivial⟩) rfl (by intro X h; cases h) ?_; intro w31 hM'; clear hM; have hM := hM'; clear hM'
        try simp only [List.take_zero, List.take_succ_cons, List.drop_zero, List.drop_succ_cons, List.take_nil, List.drop_nil, List.nil_append, List.append_nil, List.cons_append] at hM
        refine q_nil ?_
        replace hE : Env a 60 [(1, _), (2, _), (3, _), (5, _), (7, _), (21, _), (22, _), (23, _), (38, _), (39, _), (40, _)] := hE.sel [1, 2, 3, 5, 7, 21, 22, 23, 38, 39, 40] rfl
        refine hK25 _ _ ?_
        refine wp_seq_k (fun K26 hK26 => ?_)
        refine wp_drawnM hM (by kernel_rfl) (fun _ => False) [(0, true), (1, true), (2, true), (5, true), (6, true), (7, true), (3, false), (4, false), (8, false), (9, true)] [(3, [(4, 3), (8, 4), (9, 3)]), (4, [(8, 4), (9, 4)]), (8, [(9, 8)])] (by kernel_rfl) rfl ?_
        intro w32 hM' hww32; clear hM; have hM := hM'; clear hM'
        refine s_move hE rfl rfl ?_; clear hE a; intro a hE
        refine s_fieldAddr hE rfl fo36_0 rfl ?_; clear hE a; intro a hE
        refine s_load1 hE rfl (hM.get 0 rfl) rfl one4 (by intro X h; cases h; simp) rfl ?_; clear hE a; intro a hE
        refine s_fieldAddr hE rfl fo36_1 rfl ?_; clear hE a; intro a hE
        refine s_load1 hE rfl (hM.get 0 rfl) rfl one3 (by intro X h; cases h; simp) rfl ?_; clear hE a; intro a hE
        refine s_conv hE rfl (cnv_int Try.underlying3 Try.underlying24 (wrap_u64_toNat (z := h.s1.2.1) (by omega) (by omega))) rfl ?_; clear hE a; intro a hE
        refine s_call hE rfl Try.call33 (hflag_c h.s1.1 _) rfl ?_
        rintro e w33 ⟨rfl, hN⟩
        refine ⟨_, rfl, hN.sta0 _, ?_⟩; clear hE a; intro a hE
        replace hM : Mem _ _ w33 [_, _, _, _, _, _, _, _] := hM.call0 hN trivial; clear hN
        obtain ⟨cq12, hq12⟩ := own_rd (hM.get 1 rfl)
        have hLb13 : ((lP3 h) ++ laid 1 (flagN h.s1.1)).length = 241 + 1 := (by have hl_q : (lP3 h).length = 241 := (lP3_len hk); rw [List.length_append, laid_length]; try omega)
        refine s_call hE rfl Try.call31 (hnum_c _ (lP3 h) _ 1 (flagN h.s1.1) _ hq12 (by decide) (by first | exact .inl (by decide) | exact .inr (by omega) | exact .inr flag_lt) (by have hl_0 : (lP3 h).length = 241 := (lP3_len hk); first | omega | assumption | (simp; done) | (simp; omega) | decide)) rfl ?_
        rintro e w34 ⟨v46, rfl, hN⟩
        refine ⟨_, rfl, hN.sta0 _, ?_⟩; clear hE a; intro a hE
        replace hM : Mem _ _ w34 [_, _, _, _, _, _, _, _, _] := hM.call0 hN ⟨rfl, trivial⟩; clear hN
        obtain ⟨cq13, hq13⟩ := own_rd (hM.get 0 rfl)
        have hLb14 : (((lP3 h) ++ laid 1 (flagN h.s1.1)) ++ laid 4 h.s1.2.1.toNat).length = 241 + 1 + 4 := (by have hl_q : ((lP3 h) ++ laid 1 (flagN h.s1.1)).length = 241 + 1 := hLb13; rw [List.length_append, laid_length]; try omega)
        refine s_call hE rfl Try.call31 (hnum_c _ ((lP3 h) ++ laid 1 (flagN h.s1.1)) _ 4 h.s1.2.1.toNat _ hq13 (by decide) (by first | exact .inl (by decide) | exact .inr (by omega) | exact .inr flag_lt) (by have hl_0 : ((lP3 h) ++ laid 1 (flagN h.s1.1)).length = 241 + 1 := hLb13; first | omega | assumption | (simp; done) | (simp; omega) | decide)) rfl ?_
        rintro e w35 ⟨v50, rfl, hN⟩
        refine ⟨_, rfl, hN.sta0 _, ?_⟩; clear hE a; intro a hE
        replace hM : Mem _ _ w35 [_, _, _, _, _, _, _, _, _, _] := hM.call0 hN ⟨rfl, trivial⟩; clear hN
        refine s_assign hE rfl rfl ?_; clear hE a; intro a hE
        refine q_nil ?_
        replace hE : Env a 60 [(1, _), (2, _), (3, _), (5, _), (7, _), (21, _), (22, _), (23, _), (38, _), (39, _), (40, _)] := hE.sel [1, 2, 3, 5, 7, 21, 22, 23, 38, 39, 40] rfl
        refine hK26 _ _ ?_
        refine wp_treeM hM (by kernel_rfl) (fun _ => True) (fun _ => True) (.re [(0, true), (1, true), (2, true), (4, true), (5, true), (3, false), (6, false), (7, true)] (.fl 4 (.weak (.fl 1 (.or 3 (.cut (.re [(6, false), (7, true)] (.weak (.leaf 2)))) (.stop)))))) [(0, true), (1, true), (2, true), (4, true), (5, true), (3, false), (6, false), (7, true)] [(1, [(2, 1), (3, 2), (6, 3), (7, 1)]), (2, [(3, 2), (6, 3), (7, 2)]), (3, [(6, 3), (7, 3)]), (4, [(5, 4), (6, 5), (7, 4)]), (5, [(6, 5), (7, 5)]), (6, [(7, 6)])] (by kernel_rfl) ?_
        intro w36 hM' hww36; clear hM; have hM := hM'; clear hM'
        refine o_re ?_
        refine o_fl rfl ?_
        refine s_move hE rfl rfl ?_; clear hE a; intro a hE
        refine s_fieldAddr hE rfl fo36_2 rfl ?_; clear hE a; intro a hE
        refine s_sliceArr (l := 0) (h := 16) (mx' := 16) hE rfl arr34 rfl rfl rfl (by simp) (by omega) (by omega) (by omega) rfl ?_; clear hE a; intro a hE
        replace hE := hE.cast 53 rfl (show _ = Value.slice (some ⟨b7, 2, none⟩) 16 16 from rfl)
        refine s_fieldAddr hE rfl fo36_3 rfl ?_; clear hE a; intro a hE
        refine q_nil (q_nx ?_)
        refine o_weak (fun b => b ≠ b7) (fun _ _ => trivial) ?_
        refine o_fl rfl ?_
        refine s_loadN hE rfl (hM.get 2 rfl) row29 rfl (by intro X h; cases h; simp) rfl ?_; clear hE a; intro a hE
        replace hE := hE.cast 56 rfl (show _ = Value.agg ([bv h.s1.2.2.2.1, bv h.s1.2.2.2.2] : List (List Value)).flatten.toArray from (by first | rfl | simp only [List.flatten_cons, List.flatten_nil, List.append_nil, List.append_assoc]))
        refine q_nil (q_nx ?_)
        refine o_or rfl ?_ ?_
        · have hLb15 : ((((lP3 h) ++ laid 1 (flagN h.s1.1)) ++ laid 4 h.s1.2.1.toNat) ++ h.s1.2.2.1).length = 241 + 1 + 4 + 16 := (by have hl_p : (((lP3 h) ++ laid 1 (flagN h.s1.1)) ++ laid 4 h.s1.2.1.toNat).length = 241 + 1 + 4 := hLb14; have hl_q : h.s1.2.2.1.length = 16 := hk.s1.2.1; rw [List.length_append]; omega)
          refine s_append hE rfl rfl hM sl55 (Src.rd Try.underlying55 (rd_seg8 (N := 16) (hM.get 2 rfl) rfl hk.s1.2.1) (bv_one _)) (len47 (by have hl_x : (((lP3 h) ++ laid 1 (flagN h.s1.1)) ++ laid 4 h.s1.2.1.toNat).length = 241 + 1 + 4 := hLb14; have hl_y : h.s1.2.2.1.length = 16 := hk.s1.2.1; first | omega | (simp; done) | (simp; omega))) (by have hl_x : (((lP3 h) ++ laid 1 (flagN h.s1.1)) ++ laid 4 h.s1.2.1.toNat).length = 241 + 1 + 4 := hLb14; have hl_y : h.s1.2.2.1.length = 16 := hk.s1.2.1; first | omega | (simp; done) | (simp; omega)) (by intro X h; cases h; intro b hb; exact fun e => ((apart_of_get hM.apart (i := 0) (j := 2) rfl rfl (by decide)).1 b hb).1 (by rw [e]; exact .head _)) rfl ?_; clear hE a; intro a v54 w37 hE hM'; clear hM; have hM := hM'; clear hM'
          replace hM := Mem.ownApp (p := ((lP3 h) ++ laid 1 (flagN h.s1.1)) ++ laid 4 h.s1.2.1.toNat) (q := h.s1.2.2.1) hM (by first | rfl | (simp; done))
          refine q_nil (q_nx ?_)
          refine o_cut (fun _ => True) ?_
          refine o_re ?_
          refine o_weak (fun _ => False) (fun _ _ => trivial) ?_
          refine o_leaf rfl rfl ?_
          obtain ⟨cq14, hq14⟩ := own_rd (hM.get 0 rfl)
          have hLb16 : ((((((lP3 h) ++ laid 1 (flagN h.s1.1)) ++ laid 4 h.s1.2.1.toNat) ++ h.s1.2.2.1) ++ h.s1.2.2.2.1) ++ h.s1.2.2.2.2).length = 241 + 1 + 4 + 16 + 64 := (by have hl_q : ((((lP3 h) ++ laid 1 (flagN h.s1.1)) ++ laid 4 h.s1.2.1.toNat) ++ h.s1.2.2.1).length = 241 + 1 + 4 + 16 := hLb15; have hl_stx : h.s1.2.2.2.1.length = 32 := hk.s1.2.2.1; have hl_sty : h.s1.2.2.2.2.length = 32 := hk.s1.2.2.2; rw [List.length_append, List.length_append]; omega)
          refine s_call hE rfl Try.call32 (boxput_c _ ((((lP3 h) ++ laid 1 (flagN h.s1.1)) ++ laid 4 h.s1.2.1.toNat) ++ h.s1.2.2.1) _ h.s1.2.2.2.1 h.s1.2.2.2.2 _ hq14 hk.s1.2.2.1 hk.s1.2.2.2 (by have hl_0 : ((((lP3 h) ++ laid 1 (flagN h.s1.1)) ++ laid 4 h.s1.2.1.toNat) ++ h.s1.2.2.1).length = 241 + 1 + 4 + 16 := hLb15; have hl_1x : h.s1.2.2.2.1.length = 32 := hk.s1.2.2.1; have hl_1y : h.s1.2.2.2.2.length = 32 := hk.s1.2.2.2; first | omega | assumption | (simp; done) | (simp; omega) | decide)) rfl ?_
          rintro e w38 ⟨v57, rfl, hN⟩
          refine ⟨_, rfl, hN.sta0 _, ?_⟩; clear hE a; intro a hE
          replace hM : Mem _ _ w38 [_, _, _, _, _, _, _, _, _, _, _] := hM.call0 hN ⟨rfl, trivial⟩; clear hN
          refine s_assign hE rfl rfl ?_; clear hE a; intro a hE
          refine q_nil (q_ph (q_nil ?_))
          replace hE : Env a 60 [(1, _), (2, _), (3, _), (5, _), (7, _), (21, _), (22, _), (23, _), (38, _), (39, _), (40, _)] := hE.sel [1, 2, 3, 5, 7, 21, 22, 23, 38, 39, 40] rfl
          refine q_block_n ?_
          refine hK24 _ _ ?_
          refine wp_plain [true, true] rfl rfl ?_
          refine s_bin hE rfl rfl (show Bin _ _ _ _ _ (.int .i64 2) from bin_add (by rw [wrap_i64 (by omega) (by omega)]; omega)) rfl ?_; clear hE a; intro a hE
          refine s_move hE rfl rfl ?_; clear hE a; intro a hE
          refine q_nil ?_
          replace hE : Env a 60 [(1, _), (2, _), (3, _), (5, _), (7, _), (21, _), (22, _), (23, _), (38, _), (39, _), (40, _)] := hE.sel [1, 2, 3, 5, 7, 21, 22, 23, 38, 39, 40] rfl
          replace hM : Mem _ _ w38 [_, _, _, _, _, _, _, _, _, _] := hM.pick [0, 1, 2, 3, 5, 6, 7, 8, 9, 10] rfl
          replace hM := Mem.ownB (p := (((((lP3 h) ++ laid 1 (flagN h.s1.1)) ++ laid 4 h.s1.2.1.toNat) ++ h.s1.2.2.1) ++ h.s1.2.2.2.1) ++ h.s1.2.2.2.2) (q := lP4 h) hM (by simp [lP4, layV, layS, magicH])
          replace hM : Mem _ _ w38 [_, _, _, _, _, _, _, _] := hM.pick [0, 3, 4, 5, 6, 7, 8, 9] rfl
          refine q_then_n (c_rounds ?_)
          refine wp_seq_k (fun K27 hK27 => ?_)
          refine wp_plain [true] rfl rfl ?_
          refine s_bin hE rfl rfl bin_lss rfl ?_; clear hE a; intro a hE
          replace hE := hE.cast 40 rfl (show _ = Value.bool true from (congrArg Value.bool (by decide)))
          refine q_nil ?_
          refine hK27 _ _ ?_
          refine wp_seq_k (fun K28 hK28 => ?_)
          refine wp_cond_true (hE.eval rfl) ?_
          refine wp_skip ?_
          refine hK28 _ _ ?_
          refine wp_seq_k (fun K29 hK29 => ?_)
          refine wp_block ?_
          refine wp_seq_k (fun K30 hK30 => ?_)
          refine wp_plain [true, false, false] rfl rfl ?_
          have hil508_2 : h.s0.2.2.1.length = 16 := hk.s0.2.1
          have hil508_3 : h.s0.2.2.2.1.length = 32 := hk.s0.2.2.1
          have hil508_4 : h.s0.2.2.2.2.length = 32 := hk.s0.2.2.2
          have hil508_7 : h.s1.2.2.1.length = 16 := hk.s1.2.1
          have hil508_8 : h.s1.2.2.2.1.length = 32 := hk.s1.2.2.1
          have hil508_9 : h.s1.2.2.2.2.length = 32 := hk.s1.2.2.2
          have hil508_12 : h.s2.2.2.1.length = 16 := hk.s2.2.1
          have hil508_13 : h.s2.2.2.2.1.length = 32 := hk.s2.2.2.1
          have hil508_14 : h.s2.2.2.2.2.length = 32 := hk.s2.2.2.2
          have hil508_17 : h.s3.2.2.1.length = 16 := hk.s3.2.1
          have hil508_18 : h.s3.2.2.2.1.length = 32 := hk.s3.2.2.1
          have hil508_19 : h.s3.2.2.2.2.length = 32 := hk.s3.2.2.2
          refine s_indexAgg (j := 2) hE rfl rfl Try.underlying37 row36 rfl (by decide) rfl ?_; clear hE a; intro a hE
          replace hE := hE.cast 41 rfl (show _ = Value.agg ([[.bool h.s2.1], [.int .i64 h.s2.2.1], bv h.s2.2.2.1, bv h.s2.2.2.2.1, bv h.s2.2.2.2.2] : List (List Value)).flatten.toArray from congrArg (fun l : List Value => Value.agg l.toArray) (flat_seg (ps := [[.bool h.s0.1], [.int .i64 h.s0.2.1], bv h.s0.2.2.1, bv h.s0.2.2.2.1, bv h.s0.2.2.2.2, [.bool h.s1.1], [.int .i64 h.s1.2.1], bv h.s1.2.2.1, bv h.s1.2.2.2.1, bv h.s1.2.2.2.2]) (qs := [[.bool h.s2.1], [.int .i64 h.s2.2.1], bv h.s2.2.2.1, bv h.s2.2.2.2.1, bv h.s2.2.2.2.2]) (rs := [[.bool h.s3.1], [.int .i64 h.s3.2.1], bv h.s3.2.2.1, bv h.s3.2.2.2.1, bv h.s3.2.2.2.2]) (by simp only [List.map_cons, List.map_nil, bv_length, List.length_cons, List.length_nil, List.length_replicate, hil508_2, hil508_3, hil508_4, hil508_7, hil508_8, hil508_9, hil508_12, hil508_13, hil508_14, hil508_17, hil508_18, hil508_19]; rfl) (by simp only [List.map_cons, List.map_nil, bv_length, List.length_cons, List.length_nil, List.length_replicate, hil508_2, hil508_3, hil508_4, hil508_7, hil508_8, hil508_9, hil508_12, hil508_13, hil508_14, hil508_17, hil508_18, hil508_19]; rfl)))
          refine s_alloc [1, 1, 16, 32, 32] hE hM zeroL36 rfl rfl ?_; clear hE a; intro a b7 w39 hE hM'
          clear hM; have hM := hM'; clear hM'
          have hsl524_2 : h.s2.2.2.1.length = 16 := hk.s2.2.1
          have hsl524_3 : h.s2.2.2.2.1.length = 32 := hk.s2.2.2.1
          have hsl524_4 : h.s2.2.2.2.2.length = 32 := hk.s2.2.2.2
          replace hM : Mem _ _ w39 [_, _, _, _, _, _, _, _] := hM.pick [0, 1, 3, 4, 5, 6, 7, 8] rfl
          refine s_storeSegs 0 5 (vss := [[.bool h.s2.1], [.int .i64 h.s2.2.1], bv h.s2.2.2.1, bv h.s2.2.2.2.1, bv h.s2.2.2.2.2]) hE rfl rfl hM rfl sz36 (by simp only [List.take_succ_cons, List.take_zero, List.drop_zero, List.drop_succ_cons]; simp only [List.map_cons, List.map_nil, bv_length, List.length_cons, List.length_nil, List.length_replicate, hsl524_2, hsl524_3, hsl524_4]) (by decide) rfl (one_fl ⟨one1 rfl, one1 rfl, bv_one _, bv_one _, bv_one _, trivial⟩) rfl (by intro X h; cases h) ?_; intro w40 hM'; clear hM; have hM := hM'; clear hM'
          try simp only [List.take_zero, List.take_succ_cons, List.drop_zero, List.drop_succ_cons, List.take_nil, List.drop_nil, List.nil_append, List.append_nil, List.cons_append] at hM
          refine q_nil ?_
          replace hE : Env a 60 [(1, _), (2, _), (3, _), (5, _), (7, _), (21, _), (22, _), (23, _), (38, _), (39, _), (40, _)] := hE.sel [1, 2, 3, 5, 7, 21, 22, 23, 38, 39, 40] rfl
          refine hK30 _ _ ?_
          refine wp_seq_k (fun K31 hK31 => ?_)
          refine wp_drawnM hM (by kernel_rfl) (fun _ => False) [(0, true), (1, true), (2, true), (5, true), (6, true), (7, true), (3, false), (4, false), (8, false), (9, true)] [(3, [(4, 3), (8, 4), (9, 3)]), (4, [(8, 4), (9, 4)]), (8, [(9, 8)])] (by kernel_rfl) rfl ?_
          intro w41 hM' hww41; clear hM; have hM := hM'; clear hM'
          refine s_move hE rfl rfl ?_; clear hE a; intro a hE
          refine s_fieldAddr hE rfl fo36_0 rfl ?_; clear hE a; intro a hE
          refine s_load1 hE rfl (hM.get 0 rfl) rfl one4 (by intro X h; cases h; simp) rfl ?_; clear hE a; intro a hE
          refine s_fieldAddr hE rfl fo36_1 rfl ?_; clear hE a; intro a hE
          refine s_load1 hE rfl (hM.get 0 rfl) rfl one3 (by intro X h; cases h; simp) rfl ?_; clear hE a; intro a hE
          refine s_conv hE rfl (cnv_int Try.underlying3 Try.underlying24 (wrap_u64_toNat (z := h.s2.2.1) (by omega) (by omega))) rfl ?_; clear hE a; intro a hE
          refine s_call hE rfl Try.call33 (hflag_c h.s2.1 _) rfl ?_
          rintro e w42 ⟨rfl, hN⟩
          refine ⟨_, rfl, hN.sta0 _, ?_⟩; clear hE a; intro a hE
          replace hM : Mem _ _ w42 [_, _, _, _, _, _, _, _] := hM.call0 hN trivial; clear hN
          obtain ⟨cq15, hq15⟩ := own_rd (hM.get 1 rfl)
          have hLb17 : ((lP4 h) ++ laid 1 (flagN h.s2.1)).length = 326 + 1 := (by have hl_q : (lP4 h).length = 326 := (lP4_len hk); rw [List.length_append, laid_length]; try omega)
          refine s_call hE rfl Try.call31 (hnum_c _ (lP4 h) _ 1 (flagN h.s2.1) _ hq15 (by decide) (by first | exact .inl (by decide) | exact .inr (by omega) | exact .inr flag_lt) (by have hl_0 : (lP4 h).length = 326 := (lP4_len hk); first | omega | assumption | (simp; done) | (simp; omega) | decide)) rfl ?_
          rintro e w43 ⟨v46, rfl, hN⟩
          refine ⟨_, rfl, hN.sta0 _, ?_⟩; clear hE a; intro a hE
          replace hM : Mem _ _ w43 [_, _, _, _, _, _, _, _, _] := hM.call0 hN ⟨rfl, trivial⟩; clear hN
          obtain ⟨cq16, hq16⟩ := own_rd (hM.get 0 rfl)
          have hLb18 : (((lP4 h) ++ laid 1 (flagN h.s2.1)) ++ laid 4 h.s2.2.1.toNat).length = 326 + 1 + 4 := (by have hl_q : ((lP4 h) ++ laid 1 (flagN h.s2.1)).length = 326 + 1 := hLb17; rw [List.length_append, laid_length]; try omega)
          refine s_call hE rfl Try.call31 (hnum_c _ ((lP4 h) ++ laid 1 (flagN h.s2.1)) _ 4 h.s2.2.1.toNat _ hq16 (by decide) (by first | exact .inl (by decide) | exact .inr (by omega) | exact .inr flag_lt) (by have hl_0 : ((lP4 h) ++ laid 1 (flagN h.s2.1)).length = 326 + 1 := hLb17; first | omega | assumption | (simp; done) | (simp; omega) | decide)) rfl ?_
          rintro e w44 ⟨v50, rfl, hN⟩
          refine ⟨_, rfl, hN.sta0 _, ?_⟩; clear hE a; intro a hE
          replace hM : Mem _ _ w44 [_, _, _, _, _, _, _, _, _, _] := hM.call0 hN ⟨rfl, trivial⟩; clear hN
          refine s_assign hE rfl rfl ?_; clear hE a; intro a hE
          refine q_nil ?_
          replace hE : Env a 60 [(1, _), (2, _), (3, _), (5, _), (7, _), (21, _), (22, _), (23, _), (38, _), (39, _), (40, _)] := hE.sel [1, 2, 3, 5, 7, 21, 22, 23, 38, 39, 40] rfl
          refine hK31 _ _ ?_
          refine wp_treeM hM (by kernel_rfl) (fun _ => True) (fun _ => True) (.re [(0, true), (1, true), (2, true), (4, true), (5, true), (3, false), (6, false), (7, true)] (.fl 4 (.weak (.fl 1 (.or 3 (.cut (.re [(6, false), (7, true)] (.weak (.leaf 2)))) (.stop)))))) [(0, true), (1, true), (2, true), (4, true), (5, true), (3, false), (6, false), (7, true)] [(1, [(2, 1), (3, 2), (6, 3), (7, 1)]), (2, [(3, 2), (6, 3), (7, 2)]), (3, [(6, 3), (7, 3)]), (4, [(5, 4), (6, 5), (7, 4)]), (5, [(6, 5), (7, 5)]), (6, [(7, 6)])] (by kernel_rfl) ?_
          intro w45 hM' hww45; clear hM; have hM := hM'; clear hM'
          refine o_re ?_
          refine o_fl rfl ?_
          refine s_move hE rfl rfl ?_; clear hE a; intro a hE
          refine s_fieldAddr hE rfl fo36_2 rfl ?_; clear hE a; intro a hE
          refine s_sliceArr (l := 0) (h := 16) (mx' := 16) hE rfl arr34 rfl rfl rfl (by simp) (by omega) (by omega) (by omega) rfl ?_; clear hE a; intro a hE
          replace hE := hE.cast 53 rfl (show _ = Value.slice (some ⟨b7, 2, none⟩) 16 16 from rfl)
          refine s_fieldAddr hE rfl fo36_3 rfl ?_; clear hE a; intro a hE
          refine q_nil (q_nx ?_)
          refine o_weak (fun b => b ≠ b7) (fun _ _ => trivial) ?_
          refine o_fl rfl ?_
          refine s_loadN hE rfl (hM.get 2 rfl) row29 rfl (by intro X h; cases h; simp) rfl ?_; clear hE a; intro a hE
          replace hE := hE.cast 56 rfl (show _ = Value.agg ([bv h.s2.2.2.2.1, bv h.s2.2.2.2.2] : List (List Value)).flatten.toArray from (by first | rfl | simp only [List.flatten_cons, List.flatten_nil, List.append_nil, List.append_assoc]))
          refine q_nil (q_nx ?_)
          refine o_or rfl ?_ ?_
          · have hLb19 : ((((lP4 h) ++ laid 1 (flagN h.s2.1)) ++ laid 4 h.s2.2.1.toNat) ++ h.s2.2.2.1).length = 326 + 1 + 4 + 16 := (by have hl_p : (((lP4 h) ++ laid 1 (flagN h.s2.1)) ++ laid 4 h.s2.2.1.toNat).length = 326 + 1 + 4 := hLb18; have hl_q : h.s2.2.2.1.length = 16 := hk.s2.2.1; rw [List.length_append]; omega)
            refine s_append hE rfl rfl hM sl55 (Src.rd Try.underlying55 (rd_seg8 (N := 16) (hM.get 2 rfl) rfl hk.s2.2.1) (bv_one _)) (len47 (by have hl_x : (((lP4 h) ++ laid 1 (flagN h.s2.1)) ++ laid 4 h.s2.2.1.toNat).length = 326 + 1 + 4 := hLb18; have hl_y : h.s2.2.2.1.length = 16 := hk.s2.2.1; first | omega | (simp; done) | (simp; omega))) (by have hl_x : (((lP4 h) ++ laid 1 (flagN h.s2.1)) ++ laid 4 h.s2.2.1.toNat).length = 326 + 1 + 4 := hLb18; have hl_y : h.s2.2.2.1.length = 16 := hk.s2.2.1; first | omega | (simp; done) | (simp; omega)) (by intro X h; cases h; intro b hb; exact fun e => ((apart_of_get hM.apart (i := 0) (j := 2) rfl rfl (by decide)).1 b hb).1 (by rw [e]; exact .head _)) rfl ?_; clear hE a; intro a v54 w46 hE hM'; clear hM; have hM := hM'; clear hM'
            replace hM := Mem.ownApp (p := ((lP4 h) ++ laid 1 (flagN h.s2.1)) ++ laid 4 h.s2.2.1.toNat) (q := h.s2.2.2.1) hM (by first | rfl | (simp; done))
            refine q_nil (q_nx ?_)
            refine o_cut (fun _ => True) ?_
            refine o_re ?_
            refine o_weak (fun _ => False) (fun _ _ => trivial) ?_
            refine o_leaf rfl rfl ?_
            obtain ⟨cq17, hq17⟩ := own_rd (hM.get 0 rfl)
            have hLb20 : ((((((lP4 h) ++ laid 1 (flagN h.s2.1)) ++ laid 4 h.s2.2.1.toNat) ++ h.s2.2.2.1) ++ h.s2.2.2.2.1) ++ h.s2.2.2.2.2).length = 326 + 1 + 4 + 16 + 64 := (by have hl_q : ((((lP4 h) ++ laid 1 (flagN h.s2.1)) ++ laid 4 h.s2.2.1.toNat) ++ h.s2.2.2.1).length = 326 + 1 + 4 + 16 := hLb19; have hl_stx : h.s2.2.2.2.1.length = 32 := hk.s2.2.2.1; have hl_sty : h.s2.2.2.2.2.length = 32 := hk.s2.2.2.2; rw [List.length_append, List.length_append]; omega)
            refine s_call hE rfl Try.call32 (boxput_c _ ((((lP4 h) ++ laid 1 (flagN h.s2.1)) ++ laid 4 h.s2.2.1.toNat) ++ h.s2.2.2.1) _ h.s2.2.2.2.1 h.s2.2.2.2.2 _ hq17 hk.s2.2.2.1 hk.s2.2.2.2 (by have hl_0 : ((((lP4 h) ++ laid 1 (flagN h.s2.1)) ++ laid 4 h.s2.2.1.toNat) ++ h.s2.2.2.1).length = 326 + 1 + 4 + 16 := hLb19; have hl_1x : h.s2.2.2.2.1.length = 32 := hk.s2.2.2.1; have hl_1y : h.s2.2.2.2.2.length = 32 := hk.s2.2.2.2; first | omega | assumption | (simp; done) | (simp; omega) | decide)) rfl ?_
            rintro e w47 ⟨v57, rfl, hN⟩
            refine ⟨_, rfl, hN.sta0 _, ?_⟩; clear hE a; intro a hE
            replace hM : Mem _ _ w47 [_, _, _, _, _, _, _, _, _, _, _] := hM.call0 hN ⟨rfl, trivial⟩; clear hN
            refine s_assign hE rfl rfl ?_; clear hE a; intro a hE
            refine q_nil (q_ph (q_nil ?_))
            replace hE : Env a 60 [(1, _), (2, _), (3, _), (5, _), (7, _), (21, _), (22, _), (23, _), (38, _), (39, _), (40, _)] := hE.sel [1, 2, 3, 5, 7, 21, 22, 23, 38, 39, 40] rfl
            refine q_block_n ?_
            refine hK29 _ _ ?_
            refine wp_plain [true, true] rfl rfl ?_
            refine s_bin hE rfl rfl (show Bin _ _ _ _ _ (.int .i64 3) from bin_add (by rw [wrap_i64 (by omega) (by omega)]; omega)) rfl ?_; clear hE a; intro a hE
            refine s_move hE rfl rfl ?_; clear hE a; intro a hE
            refine q_nil ?_
            replace hE : Env a 60 [(1, _), (2, _), (3, _), (5, _), (7, _), (21, _), (22, _), (23, _), (38, _), (39, _), (40, _)] := hE.sel [1, 2, 3, 5, 7, 21, 22, 23, 38, 39, 40] rfl
            replace hM : Mem _ _ w47 [_, _, _, _, _, _, _, _, _, _] := hM.pick [0, 1, 2, 3, 5, 6, 7, 8, 9, 10] rfl
            replace hM := Mem.ownB (p := (((((lP4 h) ++ laid 1 (flagN h.s2.1)) ++ laid 4 h.s2.2.1.toNat) ++ h.s2.2.2.1) ++ h.s2.2.2.2.1) ++ h.s2.2.2.2.2) (q := lP5 h) hM (by simp [lP5, layV, layS, magicH])
            replace hM : Mem _ _ w47 [_, _, _, _, _, _, _, _] := hM.pick [0, 3, 4, 5, 6, 7, 8, 9] rfl
            refine q_then_n (c_rounds ?_)
            refine wp_seq_k (fun K32 hK32 => ?_)
            refine wp_plain [true] rfl rfl ?_
            refine s_bin hE rfl rfl bin_lss rfl ?_; clear hE a; intro a hE
            replace hE := hE.cast 40 rfl (show _ = Value.bool true from (congrArg Value.bool (by decide)))
            refine q_nil ?_
            refine hK32 _ _ ?_
            refine wp_seq_k (fun K33 hK33 => ?_)
            refine wp_cond_true (hE.eval rfl) ?_
            refine wp_skip ?_
            refine hK33 _ _ ?_
            refine wp_seq_k (fun K34 hK34 => ?_)
            refine wp_block ?_
            refine wp_seq_k (fun K35 hK35 => ?_)
            refine wp_plain [true, false, false] rfl rfl ?_
            have hil620_2 : h.s0.2.2.1.length = 16 := hk.s0.2.1
            have hil620_3 : h.s0.2.2.2.1.length = 32 := hk.s0.2.2.1
            have hil620_4 : h.s0.2.2.2.2.length = 32 := hk.s0.2.2.2
            have hil620_7 : h.s1.2.2.1.length = 16 := hk.s1.2.1
            have hil620_8 : h.s1.2.2.2.1.length = 32 := hk.s1.2.2.1
            have hil620_9 : h.s1.2.2.2.2.length = 32 := hk.s1.2.2.2
            have hil620_12 : h.s2.2.2.1.length = 16 := hk.s2.2.1
            have hil620_13 : h.s2.2.2.2.1.length = 32 := hk.s2.2.2.1
            have hil620_14 : h.s2.2.2.2.2.length = 32 := hk.s2.2.2.2
            have hil620_17 : h.s3.2.2.1.length = 16 := hk.s3.2.1
            have hil620_18 : h.s3.2.2.2.1.length = 32 := hk.s3.2.2.1
            have hil620_19 : h.s3.2.2.2.2.length = 32 := hk.s3.2.2.2
            refine s_indexAgg (j := 3) hE rfl rfl Try.underlying37 row36 rfl (by decide) rfl ?_; clear hE a; intro a hE
            replace hE := hE.cast 41 rfl (show _ = Value.agg ([[.bool h.s3.1], [.int .i64 h.s3.2.1], bv h.s3.2.2.1, bv h.s3.2.2.2.1, bv h.s3.2.2.2.2] : List (List Value)).flatten.toArray from congrArg (fun l : List Value => Value.agg l.toArray) (flat_seg (ps := [[.bool h.s0.1], [.int .i64 h.s0.2.1], bv h.s0.2.2.1, bv h.s0.2.2.2.1, bv h.s0.2.2.2.2, [.bool h.s1.1], [.int .i64 h.s1.2.1], bv h.s1.2.2.1, bv h.s1.2.2.2.1, bv h.s1.2.2.2.2, [.bool h.s2.1], [.int .i64 h.s2.2.1], bv h.s2.2.2.1, bv h.s2.2.2.2.1, bv h.s2.2.2.2.2]) (qs := [[.bool h.s3.1], [.int .i64 h.s3.2.1], bv h.s3.2.2.1, bv h.s3.2.2.2.1, bv h.s3.2.2.2.2]) (rs := []) (by simp only [List.map_cons, List.map_nil, bv_length, List.length_cons, List.length_nil, List.length_replicate, hil620_2, hil620_3, hil620_4, hil620_7, hil620_8, hil620_9, hil620_12, hil620_13, hil620_14, hil620_17, hil620_18, hil620_19]; rfl) (by simp only [List.map_cons, List.map_nil, bv_length, List.length_cons, List.length_nil, List.length_replicate, hil620_2, hil620_3, hil620_4, hil620_7, hil620_8, hil620_9, hil620_12, hil620_13, hil620_14, hil620_17, hil620_18, hil620_19]; rfl)))
            refine s_alloc [1, 1, 16, 32, 32] hE hM zeroL36 rfl rfl ?_; clear hE a; intro a b7 w48 hE hM'
            clear hM; have hM := hM'; clear hM'
            have hsl636_2 : h.s3.2.2.1.length = 16 := hk.s3.2.1
            have hsl636_3 : h.s3.2.2.2.1.length = 32 := hk.s3.2.2.1
            have hsl636_4 : h.s3.2.2.2.2.length = 32 := hk.s3.2.2.2
            replace hM : Mem _ _ w48 [_, _, _, _, _, _, _, _] := hM.pick [0, 1, 3, 4, 5, 6, 7, 8] rfl
            refine s_storeSegs 0 5 (vss := [[.bool h.s3.1], [.int .i64 h.s3.2.1], bv h.s3.2.2.1, bv h.s3.2.2.2.1, bv h.s3.2.2.2.2]) hE rfl rfl hM rfl sz36 (by simp only [List.take_succ_cons, List.take_zero, List.drop_zero, List.drop_succ_cons]; simp only [List.map_cons, List.map_nil, bv_length, List.length_cons, List.length_nil, List.length_replicate, hsl636_2, hsl636_3, hsl636_4]) (by decide) rfl (one_fl ⟨one1 rfl, one1 rfl, bv_one _, bv_one _, bv_one _, trivial⟩) rfl (by intro X h; cases h) ?_; intro w49 hM'; clear hM; have hM := hM'; clear hM'
            try simp only [List.take_zero, List.take_succ_cons, List.drop_zero, List.drop_succ_cons, List.take_nil, List.drop_nil, List.nil_append, List.append_nil, List.cons_append] at hM
            refine q_nil ?_
            replace hE : Env a 60 [(1, _), (2, _), (3, _), (5, _), (7, _), (21, _), (22, _), (23, _), (38, _), (39, _), (40, _)] := hE.sel [1, 2, 3, 5, 7, 21, 22, 23, 38, 39, 40] rfl
            refine hK35 _ _ ?_
            refine wp_seq_k (fun K36 hK36 => ?_)
            refine wp_drawnM hM (by kernel_rfl) (fun _ => False) [(0, true), (1, true), (2, true), (5, true), (6, true), (7, true), (3, false), (4, false), (8, false), (9, true)] [(3, [(4, 3), (8, 4), (9, 3)]), (4, [(8, 4), (9, 4)]), (8, [(9, 8)])] (by kernel_rfl) rfl ?_
            intro w50 hM' hww50; clear hM; have hM := hM'; clear hM'
            refine s_move hE rfl rfl ?_; clear hE a; intro a hE
            refine s_fieldAddr hE rfl fo36_0 rfl ?_; clear hE a; intro a hE
            refine s_load1 hE rfl (hM.get 0 rfl) rfl one4 (by intro X h; cases h; simp) rfl ?_; clear hE a; intro a hE
            refine s_fieldAddr hE rfl fo36_1 rfl ?_; clear hE a; intro a hE
            refine s_load1 hE rfl (hM.get 0 rfl) rfl one3 (by intro X h; cases h; simp) rfl ?_; clear hE a; intro a hE
            refine s_conv hE rfl (cnv_int Try.underlying3 Try.underlying24 (wrap_u64_toNat (z := h.s3.2.1) (by omega) (by omega))) rfl ?_; clear hE a; intro a hE
            refine s_call hE rfl Try.call33 (hflag_c h.s3.1 _) rfl ?_
            rintro e w51 ⟨rfl, hN⟩
            refine ⟨_, rfl, hN.sta0 _, ?_⟩; clear hE a; intro a hE
            replace hM : Mem _ _ w51 [_, _, _, _, _, _, _, _] := hM.call0 hN trivial; clear hN
            obtain ⟨cq18, hq18⟩ := own_rd (hM.get 1 rfl)
            have hLb21 : ((lP5 h) ++ laid 1 (flagN h.s3.1)).length = 411 + 1 := (by have hl_q : (lP5 h).length = 411 := (lP5_len hk); rw [List.length_append, laid_length]; try omega)
            refine s_call hE rfl Try.call31 (hnum_c _ (lP5 h) _ 1 (flagN h.s3.1) _ hq18 (by decide) (by first | exact .inl (by decide) | exact .inr (by omega) | exact .inr flag_lt) (by have hl_0 : (lP5 h).length = 411 := (lP5_len hk); first | omega | assumption | (simp; done) | (simp; omega) | decide)) rfl ?_
            rintro e w52 ⟨v46, rfl, hN⟩
            refine ⟨_, rfl, hN.sta0 _, ?_⟩; clear hE a; intro a hE
            replace hM : Mem _ _ w52 [_, _, _, _, _, _, _, _, _] := hM.call0 hN ⟨rfl, trivial⟩; clear hN
            obtain ⟨cq19, hq19⟩ := own_rd (hM.get 0 rfl)
            have hLb22 : (((lP5 h) ++ laid 1 (flagN h.s3.1)) ++ laid 4 h.s3.2.1.toNat).length = 411 + 1 + 4 := (by have hl_q : ((lP5 h) ++ laid 1 (flagN h.s3.1)).length = 411 + 1 := hLb21; rw [List.length_append, laid_length]; try omega)
            refine s_call hE rfl Try.call31 (hnum_c _ ((lP5 h) ++ laid 1 (flagN h.s3.1)) _ 4 h.s3.2.1.toNat _ hq19 (by decide) (by first | exact .inl (by decide) | exact .inr (by omega) | exact .inr flag_lt) (by have hl_0 : ((lP5 h) ++ laid 1 (flagN h.s3.1)).length = 411 + 1 := hLb21; first | omega | assumption | (simp; done) | (simp; omega) | decide)) rfl ?_
            rintro e w53 ⟨v50, rfl, hN⟩
            refine ⟨_, rfl, hN.sta0 _, ?_⟩; clear hE a; intro a hE
            replace hM : Mem _ _ w53 [_, _, _, _, _, _, _, _, _, _] := hM.call0 hN ⟨rfl, trivial⟩; clear hN
            refine s_assign hE rfl rfl ?_; clear hE a; intro a hE
            refine q_nil ?_
            replace hE : Env a 60 [(1, _), (2, _), (3, _), (5, _), (7, _), (21, _), (22, _), (23, _), (38, _), (39, _), (40, _)] := hE.sel [1, 2, 3, 5, 7, 21, 22, 23, 38, 39, 40] rfl
            refine hK36 _ _ ?_
            refine wp_treeM hM (by kernel_rfl) (fun _ => True) (fun _ => True) (.re [(0, true), (1, true), (2, true), (4, true), (5, true), (3, false), (6, false), (7, true)] (.fl 4 (.weak (.fl 1 (.or 3 (.cut (.re [(6, false), (7, true)] (.weak (.leaf 2)))) (.stop)))))) [(0, true), (1, true), (2, true), (4, true), (5, true), (3, false), (6, false), (7, true)] [(1, [(2, 1), (3, 2), (6, 3), (7, 1)]), (2, [(3, 2), (6, 3), (7, 2)]), (3, [(6, 3), (7, 3)]), (4, [(5, 4), (6, 5), (7, 4)]), (5, [(6, 5), (7, 5)]), (6, [(7, 6)])] (by kernel_rfl) ?_
            intro w54 hM' hww54; clear hM; have hM := hM'; clear hM'
            refine o_re ?_
            refine o_fl rfl ?_
            refine s_move hE rfl rfl ?_; clear hE a; intro a hE
            refine s_fieldAddr hE rfl fo36_2 rfl ?_; clear hE a; intro a hE
            refine s_sliceArr (l := 0) (h := 16) (mx' := 16) hE rfl arr34 rfl rfl rfl (by simp) (by omega) (by omega) (by omega) rfl ?_; clear hE a; intro a hE
            replace hE := hE.cast 53 rfl (show _ = Value.slice (some ⟨b7, 2, none⟩) 16 16 from rfl)
            refine s_fieldAddr hE rfl fo36_3 rfl ?_; clear hE a; intro a hE
            refine q_nil (q_nx ?_)
            refine o_weak (fun b => b ≠ b7) (fun _ _ => trivial) ?_
            refine o_fl rfl ?_
            refine s_loadN hE rfl (hM.get 2 rfl) row29 rfl (by intro X h; cases h; simp) rfl ?_; clear hE a; intro a hE
            replace hE := hE.cast 56 rfl (show _ = Value.agg ([bv h.s3.2.2.2.1, bv h.s3.2.2.2.2] : List (List Value)).flatten.toArray from (by first | rfl | simp only [List.flatten_cons, List.flatten_nil, List.append_nil, List.append_assoc]))
            refine q_nil (q_nx ?_)
            refine o_or rfl ?_ ?_
            · have hLb23 : ((((lP5 h) ++ laid 1 (flagN h.s3.1)) ++ laid 4 h.s3.2.1.toNat) ++ h.s3.2.2.1).length = 411 + 1 + 4 + 16 := (by have hl_p : (((lP5 h) ++ laid 1 (flagN h.s3.1)) ++ laid 4 h.s3.2.1.toNat).length = 411 + 1 + 4 := hLb22; have hl_q : h.s3.2.2.1.length = 16 := hk.s3.2.1; rw [List.length_append]; omega)
              refine s_append hE rfl rfl hM sl55 (Src.rd Try.underlying55 (rd_seg8 (N := 16) (hM.get 2 rfl) rfl hk.s3.2.1) (bv_one _)) (len47 (by have hl_x : (((lP5 h) ++ laid 1 (flagN h.s3.1)) ++ laid 4 h.s3.2.1.toNat).length = 411 + 1 + 4 := hLb22; have hl_y : h.s3.2.2.1.length = 16 := hk.s3.2.1; first | omega | (simp; done) | (simp; omega))) (by have hl_x : (((lP5 h) ++ laid 1 (flagN h.s3.1)) ++ laid 4 h.s3.2.1.toNat).length = 411 + 1 + 4 := hLb22; have hl_y : h.s3.2.2.1.length = 16 := hk.s3.2.1; first | omega | (simp; done) | (simp; omega)) (by intro X h; cases h; intro b hb; exact fun e => ((apart_of_get hM.apart (i := 0) (j := 2) rfl rfl (by decide)).1 b hb).1 (by rw [e]; exact .head _)) rfl ?_; clear hE a; intro a v54 w55 hE hM'; clear hM; have hM := hM'; clear hM'
              replace hM := Mem.ownApp (p := ((lP5 h) ++ laid 1 (flagN h.s3.1)) ++ laid 4 h.s3.2.1.toNat) (q := h.s3.2.2.1) hM (by first | rfl | (simp; done))
              refine q_nil (q_nx ?_)
              refine o_cut (fun _ => True) ?_
              refine o_re ?_
              refine o_weak (fun _ => False) (fun _ _ => trivial) ?_
              refine o_leaf rfl rfl ?_
              obtain ⟨cq20, hq20⟩ := own_rd (hM.get 0 rfl)
              have hLb24 : ((((((lP5 h) ++ laid 1 (flagN h.s3.1)) ++ laid 4 h.s3.2.1.toNat) ++ h.s3.2.2.1) ++ h.s3.2.2.2.1) ++ h.s3.2.2.2.2).length = 411 + 1 + 4 + 16 + 64 := (by have hl_q : ((((lP5 h) ++ laid 1 (flagN h.s3.1)) ++ laid 4 h.s3.2.1.toNat) ++ h.s3.2.2.1).length = 411 + 1 + 4 + 16 := hLb23; have hl_stx : h.s3.2.2.2.1.length = 32 := hk.s3.2.2.1; have hl_sty : h.s3.2.2.2.2.length = 32 := hk.s3.2.2.2; rw [List.length_append, List.length_append]; omega)
              refine s_call hE rfl Try.call32 (boxput_c _ ((((lP5 h) ++ laid 1 (flagN h.s3.1)) ++ laid 4 h.s3.2.1.toNat) ++ h.s3.2.2.1) _ h.s3.2.2.2.1 h.s3.2.2.2.2 _ hq20 hk.s3.2.2.1 hk.s3.2.2.2 (by have hl_0 : ((((lP5 h) ++ laid 1 (flagN h.s3.1)) ++ laid 4 h.s3.2.1.toNat) ++ h.s3.2.2.1).length = 411 + 1 + 4 + 16 := hLb23; have hl_1x : h.s3.2.2.2.1.length = 32 := hk.s3.2.2.1; have hl_1y : h.s3.2.2.2.2.length = 32 := hk.s3.2.2.2; first | omega | assumption | (simp; done) | (simp; omega) | decide)) rfl ?_
              rintro e w56 ⟨v57, rfl, hN⟩
              refine ⟨_, rfl, hN.sta0 _, ?_⟩; clear hE a; intro a hE
              replace hM : Mem _ _ w56 [_, _, _, _, _, _, _, _, _, _, _] := hM.call0 hN ⟨rfl, trivial⟩; clear hN
              refine s_assign hE rfl rfl ?_; clear hE a; intro a hE
              refine q_nil (q_ph (q_nil ?_))
              replace hE : Env a 60 [(1, _), (2, _), (3, _), (5, _), (7, _), (21, _), (22, _), (23, _), (38, _), (39, _), (40, _)] := hE.sel [1, 2, 3, 5, 7, 21, 22, 23, 38, 39, 40] rfl
              refine q_block_n ?_
              refine hK34 _ _ ?_
              refine wp_plain [true, true] rfl rfl ?_
              refine s_bin hE rfl rfl (show Bin _ _ _ _ _ (.int .i64 4) from bin_add (by rw [wrap_i64 (by omega) (by omega)]; omega)) rfl ?_; clear hE a; intro a hE
              refine s_move hE rfl rfl ?_; clear hE a; intro a hE
              refine q_nil ?_
              replace hE : Env a 60 [(1, _), (2, _), (3, _), (5, _), (7, _), (21, _), (22, _), (23, _), (38, _), (39, _), (40, _)] := hE.sel [1, 2, 3, 5, 7, 21, 22, 23, 38, 39, 40] rfl
              replace hM : Mem _ _ w56 [_, _, _, _, _, _, _, _, _, _] := hM.pick [0, 1, 2, 3, 5, 6, 7, 8, 9, 10] rfl
              replace hM := Mem.ownB (p := (((((lP5 h) ++ laid 1 (flagN h.s3.1)) ++ laid 4 h.s3.2.1.toNat) ++ h.s3.2.2.1) ++ h.s3.2.2.2.1) ++ h.s3.2.2.2.2) (q := lP6 h) hM (by simp [lP6, layV, layS, magicH])
              replace hM : Mem _ _ w56 [_, _, _, _, _, _, _, _] := hM.pick [0, 3, 4, 5, 6, 7, 8, 9] rfl
              refine q_then_n (c_rounds ?_)
              refine wp_seq_k (fun K37 hK37 => ?_)
              refine wp_plain [true] rfl rfl ?_
              refine s_bin hE rfl rfl bin_lss rfl ?_; clear hE a; intro a hE
              replace hE := hE.cast 40 rfl (show _ = Value.bool false from (congrArg Value.bool (by decide)))
              refine q_nil ?_
              refine hK37 _ _ ?_
              refine wp_seq_k (fun K38 hK38 => ?_)
              refine wp_cond_false (hE.eval rfl) ?_
              refine wp_exit ?_
              refine q_then_e ?_
              refine q_then_e ?_
              refine q_block_x ?_
              refine hK15 _ _ ?_
              refine wp_seq_k (fun K39 hK39 => ?_)
              refine wp_plain [true, true] rfl rfl ?_
              refine s_move hE rfl rfl ?_; clear hE a; intro a hE
              refine s_assign hE rfl rfl ?_; clear hE a; intro a hE
              refine q_nil ?_
              replace hE : Env a 60 [(1, _), (2, _), (3, _), (5, _), (7, _), (21, _), (22, _), (23, _), (38, _), (39, _), (40, _)] := hE.sel [1, 2, 3, 5, 7, 21, 22, 23, 38, 39, 40] rfl
              refine hK39 _ _ ?_
              refine wp_ret ?_
              refine f_ret1 hE rfl rfl ?_
              replace hM := Mem.ownB (p := lP6 h) (q := layH h) hM (lP6_eq h)
              exact ⟨_, (by first | rfl | (simp; done)), hM.pick [0] rfl⟩
            trivial
          trivial
        trivial
      trivial
    trivial
  trivial
theorem hcut_c (v : Value) (bs : List UInt8) (c : Nat) (w : World) (hr_bs : (rd v 1 bs.length c (bv bs)).holds w) (hl : bs.length = 496) : Calls Try.prog 19 #[v] w fun e w' => ∃ v'0, e = .returned (v'0) ∧ Mem w [] w' [own v'0 64 ((cutH bs).length) ((cutH bs).flatMap bv)] := by
  have hl88 : (List.replicate 8 (List.replicate 64 (0 : UInt8))).length = 8 := List.length_replicate
  have hM : Mem w [] w [rd v 1 bs.length c (bv bs)] := Mem.startR w (fun g hg => by
    simp only [List.mem_cons, List.not_mem_nil, or_false] at hg
    rcases hg with rfl
    · exact ⟨hr_bs, rfl⟩)
  refine f_enter 28 Try.func19 rfl rfl rfl ?_
  intro a hE
  replace hE : Env a 28 [(0, _)] := hE
  refine wp_seq_k (fun K1 hK1 => ?_)
  refine wp_plain [true] rfl rfl ?_
  refine s_assign hE rfl rfl ?_; clear hE a; intro a hE
  refine q_nil ?_
  refine hK1 _ _ ?_
  refine wp_seq_k (fun K2 hK2 => ?_)
  refine wp_plain [false, true] rfl rfl ?_
  refine s_makeSlice (m := 8) (zc := bv (List.replicate 64 (0 : UInt8))) hE rfl rfl hM sl40 ⟨.agg ([bv (List.replicate 64 0)] : List (List Value)).flatten.toArray, by kernel_rfl, rfl⟩ rfl rfl (by decide) (by decide) (by decide) rfl ?_; clear hE a; intro a v6 w1 hE hM'; clear hM; have hM := hM'; clear hM'
  replace hM := hM.ownEq (m' := (List.replicate 8 (List.replicate 64 (0 : UInt8))).length) (cs' := (List.replicate 8 (List.replicate 64 (0 : UInt8))).flatMap bv) List.length_replicate.symm (rep_flat rfl)
  refine s_assign hE rfl rfl ?_; clear hE a; intro a hE
  refine q_nil ?_
  replace hE : Env a 28 [(0, _), (2, _), (3, _)] := hE.sel [0, 2, 3] rfl
  refine hK2 _ _ ?_
  refine wp_seq_k (fun K3 hK3 => ?_)
  refine wp_seq_k (fun K4 hK4 => ?_)
  refine wp_plain [true, true, true] rfl rfl ?_
  refine s_move hE rfl rfl ?_; clear hE a; intro a hE
  refine s_len hE rfl Try.underlying40 (own_slice (hM.get 0 rfl)) rfl ?_; clear hE a; intro a hE
  refine s_move hE rfl rfl ?_; clear hE a; intro a hE
  refine q_nil ?_
  replace hE : Env a 28 [(0, _), (2, _), (3, _), (8, _), (9, _)] := hE.sel [0, 2, 3, 8, 9] rfl
  refine hK4 _ _ ?_
  refine wp_block ?_
  replace hM := Mem.ownRowsEq (f := bv) (ls := List.replicate 8 (List.replicate 64 (0 : UInt8))) (ms := cutI bs 0) hM cutI_zero
  refine c_loop (fun (i : Nat) a w' => i ≤ 8 ∧ Env a 28 [(0, v), (2, .slice none 0 0), (3, v6), (8, .int .i64 (((List.replicate 8 (List.replicate 64 (0 : UInt8))).length : Nat) : Int)), (9, .int .i64 ((i : Nat) : Int))] ∧ Mem w [] w' [own v6 64 ((cutI bs i).length) ((cutI bs i).flatMap bv), rd v 1 bs.length c (bv bs)]) (fun i => 8 - i) 0 ⟨Nat.zero_le _, hE.sel [0, 2, 3, 8, 9] rfl, hM⟩ ?_
  clear hE hM a; rintro i a w2 ⟨hi, hE, hM⟩
  refine wp_seq_k (fun K5 hK5 => ?_)
  refine wp_plain [true] rfl rfl ?_
  refine s_bin hE rfl rfl bin_lss rfl ?_; clear hE a; intro a hE
  refine q_nil ?_
  refine hK5 _ _ ?_
  refine wp_seq_k (fun K6 hK6 => ?_)
  refine hE.split 10 rfl (fun hb10 hE' => ?_) (fun hb10 hE' => ?_)
  · replace hE := hE'; clear hE'
    replace hb10 := of_decide_eq_true hb10
    replace hb10 : i < ((List.replicate 8 (List.replicate 64 (0 : UInt8))).length) := by omega
    replace hb10 : i < 8 := by omega
    have hcl := cutI_len (b := bs) (i := i) (by omega)
    refine wp_cond_true (hE.eval rfl) ?_
    refine wp_skip ?_
    refine hK6 _ _ ?_
    refine wp_seq_k (fun K7 hK7 => ?_)
    refine wp_block ?_
    refine wp_seq_k (fun K8 hK8 => ?_)
    refine wp_plain [true, true] rfl rfl ?_
    refine s_move hE rfl rfl ?_; clear hE a; intro a hE
    refine s_assign hE rfl rfl ?_; clear hE a; intro a hE
    refine q_nil ?_
    replace hE : Env a 28 [(0, _), (2, _), (3, _), (4, _), (8, _), (9, _), (10, _)] := hE.sel [0, 2, 3, 4, 8, 9, 10] rfl
    refine hK8 _ _ ?_
    refine wp_seq_k (fun K9 hK9 => ?_)
    refine wp_plain [true, true, true] rfl rfl ?_
    refine s_move hE rfl rfl ?_; clear hE a; intro a hE
    refine s_bin hE rfl rfl (show Bin _ _ _ _ _ (.int .i64 ((i * 64 : Nat) : Int)) from bin_mul (by rw [wrap_i64 (by omega) (by omega)]; omega)) rfl ?_; clear hE a; intro a hE
    refine s_assign hE rfl rfl ?_; clear hE a; intro a hE
    refine q_nil ?_
    replace hE : Env a 28 [(0, _), (2, _), (3, _), (4, _), (5, _), (8, _), (9, _), (10, _)] := hE.sel [0, 2, 3, 4, 5, 8, 9, 10] rfl
    refine hK9 _ _ ?_
    refine wp_seq_k (fun K10 hK10 => ?_)
    refine wp_plain [true, true, true, true] rfl rfl ?_
    refine s_move hE rfl rfl ?_; clear hE a; intro a hE
    refine s_move hE rfl rfl ?_; clear hE a; intro a hE
    refine s_len hE rfl Try.underlying55 (rd_slice (hM.get 1 rfl)) rfl ?_; clear hE a; intro a hE
    refine s_bin hE rfl rfl bin_lss rfl ?_; clear hE a; intro a hE
    refine q_nil ?_
    replace hE : Env a 28 [(0, _), (2, _), (3, _), (4, _), (5, _), (8, _), (9, _), (10, _), (17, _)] := hE.sel [0, 2, 3, 4, 5, 8, 9, 10, 17] rfl
    refine hK10 _ _ ?_
    refine hE.split 17 rfl (fun hb17 hE' => ?_) (fun hb17 hE' => ?_)
    · replace hE := hE'; clear hE'
      replace hb17 := of_decide_eq_true hb17
      replace hb17 : (i * 64) < bs.length := by omega
      refine wp_cond_true (hE.eval rfl) ?_
      refine wp_treeM hM (by kernel_rfl) (fun _ => True) (fun _ => True) (.re [(0, true), (1, true), (2, true), (3, true), (4, true), (5, true), (6, true), (7, false)] (.fl 7 (.fl 0 (.weak (.or 7 (.cut (.re [] (.weak (.leaf 0)))) (.stop)))))) [(0, true), (1, true), (2, true), (3, true), (4, true), (5, true), (6, true), (7, false)] [(2, [(3, 2), (7, 3)]), (3, [(7, 3)]), (6, [(7, 6)]), (7, [])] (by kernel_rfl) ?_
      intro w3 hM' hww3; clear hM; have hM := hM'; clear hM'
      refine o_re ?_
      refine o_fl rfl ?_
      refine s_move hE rfl rfl ?_; clear hE a; intro a hE
      refine s_move hE rfl rfl ?_; clear hE a; intro a hE
      refine s_indexOwn (j := i) hE rfl (hM.get 0 rfl) rfl slt40 (by first | rfl | omega) (by first | omega | (simp; omega) | (simp [*]; omega)) rfl ?_; clear hE a; intro a hE hc20
      refine s_sliceElem hE rfl (hM.get 0 rfl) (by first | omega | (simp; omega)) arr59 (by decide) rfl ?_; clear hE a; intro a hE
      refine s_move hE rfl rfl ?_; clear hE a; intro a hE
      refine s_move hE rfl rfl ?_; clear hE a; intro a hE
      have hcap24 := rd_len (hM.get 1 rfl)
      refine s_slice (l := i * 64) (h := bs.length) (mx' := c) hE rfl (hM.get 1 rfl) slt55 ⟨_, rfl⟩ rfl rfl (by simp) (by first | omega | assumption | (simp; done) | (simp; omega) | decide) (by first | omega | assumption | (simp; done) | (simp; omega) | decide) (by first | omega | assumption | (simp; done) | (simp; omega) | decide) (by first | omega | assumption | (simp; done) | (simp; omega) | decide) rfl ?_; clear hE a; intro a v24 hE hr24 hvb24
      replace hr24 : (rd v24 1 (bs.drop (i * 64)).length (c - i * 64) (bv (bs.drop (i * 64)))).holds _ := rd_drop rfl (by first | omega | assumption | (simp; done) | (simp; omega) | decide) hr24
      replace hM := hM.addPart 1 rfl hr24 hvb24; clear hr24
      refine q_nil (q_nx ?_)
      refine o_fl rfl ?_
      refine q_nil (q_nx ?_)
      refine o_weak (fun b => b ∈ valBlocks v6) (fun _ _ => trivial) ?_
      refine o_or rfl ?_ ?_
      · replace hM : Mem _ _ w3 [_, _, _] := hM.pick [1, 0, 2] rfl
        refine s_copyOwn (m := (cutI bs i).length) (q' := min 64 (bs.drop (i * 64)).length) hE rfl rfl hM (hM.get 1 rfl) rfl (bv_one _) sl55 (by first | (rw [cutI_len (by omega)]; omega) | (simp; omega) | omega) (by first | (rw [cutI_len (by omega)]; omega) | (simp; omega) | omega) (by intro X h; cases h; exact fun _ hb => hb) rfl ?_; clear hE a; intro a w4 hE hM'; clear hM; have hM := hM'; clear hM'
        replace hM := Mem.rowsWr (ls := cutI bs i) (src := bs.drop (i * 64)) (j := i) hM rfl (cutI_ok hl) (by first | (rw [cutI_len (by omega)]; omega) | (simp; omega) | omega)
        refine q_nil (q_nx ?_)
        refine o_cut (fun _ => True) ?_
        refine o_re ?_
        refine o_weak (fun _ => False) (fun _ _ => trivial) ?_
        refine o_leaf rfl rfl ?_
        refine q_nil (q_ph (q_nil ?_))
        replace hE : Env a 28 [(0, _), (2, _), (3, _), (4, _), (5, _), (8, _), (9, _), (10, _), (17, _)] := hE.sel [0, 2, 3, 4, 5, 8, 9, 10, 17] rfl
        refine q_block_n ?_
        refine hK7 _ _ ?_
        refine wp_plain [true, true] rfl rfl ?_
        refine s_bin hE rfl rfl (show Bin _ _ _ _ _ (.int .i64 ((i + 1 : Nat) : Int)) from bin_add (by rw [wrap_i64 (by omega) (by omega)]; omega)) rfl ?_; clear hE a; intro a hE
        refine s_move hE rfl rfl ?_; clear hE a; intro a hE
        refine q_nil ?_
        replace hE : Env a 28 [(0, _), (2, _), (3, _), (4, _), (5, _), (8, _), (9, _), (10, _), (17, _)] := hE.sel [0, 2, 3, 4, 5, 8, 9, 10, 17] rfl
        replace hE := hE.cast 9 rfl (show _ = Value.int .i64 (((i + 1) : Nat) : Int) from (congrArg _ (by omega)))
        replace hM := Mem.ownRowsEq (f := bv) (ls := (cutI bs i).set i (cpyR ((cutI bs i).getD i []) (bs.drop (i * 64)))) (ms := cutI bs (i + 1)) hM (cutI_step hl (by omega))
        replace hM : Mem _ _ w4 [_, _] := hM.pick [0, 2] rfl
        exact ⟨i + 1, ⟨by omega, hE.sel [0, 2, 3, 8, 9] rfl, hM⟩, by omega⟩
      trivial
    · replace hE := hE'; clear hE'
      replace hb17 := of_decide_eq_false hb17
      replace hb17 : ¬ ((i * 64) < bs.length) := by omega
      exfalso; omega
  · replace hE := hE'; clear hE'
    replace hb10 := of_decide_eq_false hb10
    replace hb10 : ¬ (i < ((List.replicate 8 (List.replicate 64 (0 : UInt8))).length)) := by omega
    obtain rfl : 8 = i := by omega
    replace hM := Mem.ownRowsEq (f := bv) (ls := cutI bs 8) (ms := cutH bs) hM cutI_end
    refine wp_cond_false (hE.eval rfl) ?_
    refine wp_exit ?_
    refine q_then_e ?_
    refine q_then_e ?_
    refine q_block_x ?_
    refine hK3 _ _ ?_
    refine wp_seq_k (fun K7 hK7 => ?_)
    refine wp_plain [true, true] rfl rfl ?_
    refine s_move hE rfl rfl ?_; clear hE a; intro a hE
    refine s_assign hE rfl rfl ?_; clear hE a; intro a hE
    refine q_nil ?_
    replace hE : Env a 28 [(0, _), (2, _), (3, _), (8, _), (9, _), (10, _)] := hE.sel [0, 2, 3, 8, 9, 10] rfl
    refine hK7 _ _ ?_
    refine wp_ret ?_
    refine f_ret1 hE rfl rfl ?_
    exact ⟨_, (by first | rfl | (simp; done)), hM.pick [0] rfl⟩
theorem hbytes_c (u : Value) (ls : List (List UInt8)) (lc : Nat) (w : World) (hr_ls : (rd u 64 ls.length lc (ls.flatMap bv)).holds w) (ho_ls : ∀ x, x ∈ ls → x.length = 64) (hlx : ls.length ≤ 100) : Calls Try.prog 16 #[u] w fun e w' => ∃ v', e = .returned (v') ∧ Mem w [] w' [own v' 1 ls.flatten.length (bv ls.flatten)] := by
  have hM : Mem w [] w [rd u 64 ls.length lc (ls.flatMap bv)] := Mem.startR w (fun g hg => by
    simp only [List.mem_cons, List.not_mem_nil, or_false] at hg
    rcases hg with rfl
    · exact ⟨hr_ls, rfl⟩)
  refine f_enter 17 Try.func16 rfl rfl rfl ?_
  intro a hE
  replace hE : Env a 17 [(0, _)] := hE
  refine wp_seq_k (fun K1 hK1 => ?_)
  refine wp_plain [true] rfl rfl ?_
  refine s_assign hE rfl rfl ?_; clear hE a; intro a hE
  refine q_nil ?_
  refine hK1 _ _ ?_
  refine wp_seq_k (fun K2 hK2 => ?_)
  refine wp_plain [true] rfl rfl ?_
  refine s_assign hE rfl rfl ?_; clear hE a; intro a hE
  refine q_nil ?_
  refine hK2 _ _ ?_
  refine wp_seq_k (fun K3 hK3 => ?_)
  refine wp_seq_k (fun K4 hK4 => ?_)
  refine wp_plain [true, true, true] rfl rfl ?_
  refine s_move hE rfl rfl ?_; clear hE a; intro a hE
  refine s_len hE rfl Try.underlying40 (rd_slice (hM.get 0 rfl)) rfl ?_; clear hE a; intro a hE
  refine s_move hE rfl rfl ?_; clear hE a; intro a hE
  refine q_nil ?_
  replace hE : Env a 17 [(2, _), (3, _), (6, _), (7, _), (8, _)] := hE.sel [2, 3, 6, 7, 8] rfl
  refine hK4 _ _ ?_
  refine wp_block ?_
  replace hM := hM.addNil 1
  replace hM := hM.ownEq (m' := ([] : List UInt8).length) (cs' := bv []) rfl rfl
  replace hM := Mem.ownB (p := ([] : List UInt8)) (q := (ls.take 0).flatten) hM (by simp)
  refine c_loop (fun (i : Nat) a w' => i ≤ ls.length ∧ ∃ vl3, Env a 17 [(2, .slice none 0 0), (3, vl3), (6, u), (7, .int .i64 ((ls.length : Nat) : Int)), (8, .int .i64 ((i : Nat) : Int))] ∧ Mem w [] w' [own vl3 1 ((ls.take i).flatten).length (bv ((ls.take i).flatten)), rd u 64 ls.length lc (ls.flatMap bv)]) (fun i => ls.length - i) 0 ⟨Nat.zero_le _, _, hE.sel [2, 3, 6, 7, 8] rfl, hM⟩ ?_
  clear hE hM a; rintro i a w1 ⟨hi, vl3, hE, hM⟩
  refine wp_seq_k (fun K5 hK5 => ?_)
  refine wp_plain [true] rfl rfl ?_
  refine s_bin hE rfl rfl bin_lss rfl ?_; clear hE a; intro a hE
  refine q_nil ?_
  refine hK5 _ _ ?_
  refine wp_seq_k (fun K6 hK6 => ?_)
  refine hE.split 9 rfl (fun hb9 hE' => ?_) (fun hb9 hE' => ?_)
  · replace hE := hE'; clear hE'
    replace hb9 := of_decide_eq_true hb9
    replace hb9 : i < ls.length := by omega
    replace hb9 : i < ls.length := by omega
    refine wp_cond_true (hE.eval rfl) ?_
    refine wp_skip ?_
    refine hK6 _ _ ?_
    refine wp_seq_k (fun K7 hK7 => ?_)
    refine wp_block ?_
    refine wp_seq_k (fun K8 hK8 => ?_)
    refine wp_plain [true, true, false, false] rfl rfl ?_
    refine s_indexRd (j := i) hE rfl (hM.get 1 rfl) rfl slt40 (by first | rfl | omega) (by omega) rfl ?_; clear hE a; intro a p10 hE hc10 hp10
    have hlj10 : i < ls.length := (by omega)
    have hok10 := ho_ls _ (getD_mem (d := (List.replicate 64 (0 : UInt8))) hlj10)
    rw [flat_elem (d := (List.replicate 64 (0 : UInt8))) (fun x hx => ((bv_length _).trans (ho_ls x hx))) hlj10] at hc10
    refine s_loadAtN hE rfl hc10 (by rw [((bv_length _).trans hok10)]; exact row59) (by intro X h; cases h) rfl ?_; clear hE a; intro a hE
    replace hE := hE.cast 11 rfl (show _ = Value.agg (bv (ls.getD i (List.replicate 64 (0 : UInt8)))).toArray from rfl)
    refine s_alloc [64] hE hM zero59 rfl rfl ?_; clear hE a; intro a b5 w2 hE hM'
    clear hM; have hM := hM'; clear hM'
    refine s_storeSeg 0 hE rfl rfl hM rfl sz59 ((bv_length _).trans hok10) (bv_one _) rfl ((bv_length _).trans (by first | (simp; done) | (simp [*]; done) | (simp; omega))) rfl (by intro X h; cases h) ?_; intro w3 hM'; clear hM; have hM := hM'; clear hM'
    simp only [List.set_cons_zero, List.set_cons_succ] at hM
    refine q_nil ?_
    replace hE : Env a 17 [(2, _), (3, _), (5, _), (6, _), (7, _), (8, _), (9, _)] := hE.sel [2, 3, 5, 6, 7, 8, 9] rfl
    refine hK8 _ _ ?_
    refine wp_plain [true, true, false, true] rfl rfl ?_
    refine s_move hE rfl rfl ?_; clear hE a; intro a hE
    refine s_sliceArr (l := 0) (h := 64) (mx' := 64) hE rfl arr59 rfl rfl rfl (by simp) (by omega) (by omega) (by omega) rfl ?_; clear hE a; intro a hE
    replace hE := hE.cast 13 rfl (show _ = Value.slice (some ⟨b5, 0, none⟩) 64 64 from rfl)
    replace hM : Mem _ _ w3 [_, _, _] := hM.pick [1, 0, 2] rfl
    refine s_append hE rfl rfl hM sl55 (Src.rd Try.underlying55 (rd_of_arr (hM.get 1 rfl) hok10) (bv_one _)) (len47 (by have hl_x : ((ls.take i).flatten).length = 64 * i := (flatk_len ho_ls (by omega)); have hl_y : (ls.getD i (List.replicate 64 (0 : UInt8))).length = 64 := hok10; first | omega | (simp; done) | (simp; omega))) (by have hl_x : ((ls.take i).flatten).length = 64 * i := (flatk_len ho_ls (by omega)); have hl_y : (ls.getD i (List.replicate 64 (0 : UInt8))).length = 64 := hok10; first | omega | (simp; done) | (simp; omega)) (by intro X h; cases h) rfl ?_; clear hE a; intro a v14 w4 hE hM'; clear hM; have hM := hM'; clear hM'
    replace hM := Mem.ownApp (p := (ls.take i).flatten) (q := (ls.getD i (List.replicate 64 (0 : UInt8)))) hM (by first | rfl | (simp; done))
    refine s_assign hE rfl rfl ?_; clear hE a; intro a hE
    refine q_nil ?_
    replace hE : Env a 17 [(2, _), (3, _), (5, _), (6, _), (7, _), (8, _), (9, _)] := hE.sel [2, 3, 5, 6, 7, 8, 9] rfl
    refine q_block_n ?_
    refine hK7 _ _ ?_
    refine wp_plain [true, true] rfl rfl ?_
    refine s_bin hE rfl rfl (show Bin _ _ _ _ _ (.int .i64 ((i + 1 : Nat) : Int)) from bin_add (by rw [wrap_i64 (by omega) (by omega)]; omega)) rfl ?_; clear hE a; intro a hE
    refine s_move hE rfl rfl ?_; clear hE a; intro a hE
    refine q_nil ?_
    replace hE : Env a 17 [(2, _), (3, _), (5, _), (6, _), (7, _), (8, _), (9, _)] := hE.sel [2, 3, 5, 6, 7, 8, 9] rfl
    replace hE := hE.cast 8 rfl (show _ = Value.int .i64 (((i + 1) : Nat) : Int) from (congrArg _ (by omega)))
    replace hM := Mem.ownB (p := ((ls.take i).flatten) ++ (ls.getD i (List.replicate 64 (0 : UInt8)))) (q := (ls.take (i + 1)).flatten) hM ((flatk_step (by omega)).symm)
    replace hM : Mem _ _ w4 [_, _] := hM.pick [0, 2] rfl
    exact ⟨i + 1, ⟨by omega, _, hE.sel [2, 3, 6, 7, 8] rfl, hM⟩, by omega⟩
  · replace hE := hE'; clear hE'
    replace hb9 := of_decide_eq_false hb9
    replace hb9 : ¬ (i < ls.length) := by omega
    obtain rfl : ls.length = i := by omega
    replace hM := Mem.ownB (p := (ls.take ls.length).flatten) (q := ls.flatten) hM (by rw [List.take_length])
    refine wp_cond_false (hE.eval rfl) ?_
    refine wp_exit ?_
    refine q_then_e ?_
    refine q_then_e ?_
    refine q_block_x ?_
    refine hK3 _ _ ?_
    refine wp_seq_k (fun K7 hK7 => ?_)
    refine wp_plain [true, true] rfl rfl ?_
    refine s_move hE rfl rfl ?_; clear hE a; intro a hE
    refine s_assign hE rfl rfl ?_; clear hE a; intro a hE
    refine q_nil ?_
    replace hE : Env a 17 [(2, _), (3, _), (6, _), (7, _), (8, _), (9, _)] := hE.sel [2, 3, 6, 7, 8, 9] rfl
    refine hK7 _ _ ?_
    refine wp_ret ?_
    refine f_ret1 hE rfl rfl ?_
    exact ⟨_, (by first | rfl | (simp; done)), hM.pick [0] rfl⟩
theorem hput_ok (h : Hd) (w : World) (hk : OkHd h) (hc : checkH h = 0) : Calls Try.prog 8 #[.agg ([[.int .i64 h.m], [.int .i64 h.r], [.bool h.v0.1], [.int .u64 ((h.v0.2.1 : Nat) : Int)], bv h.v0.2.2.1, bv h.v0.2.2.2, [.bool h.v1.1], [.int .u64 ((h.v1.2.1 : Nat) : Int)], bv h.v1.2.2.1, bv h.v1.2.2.2, [.bool h.s0.1], [.int .i64 h.s0.2.1], bv h.s0.2.2.1, bv h.s0.2.2.2.1, bv h.s0.2.2.2.2, [.bool h.s1.1], [.int .i64 h.s1.2.1], bv h.s1.2.2.1, bv h.s1.2.2.2.1, bv h.s1.2.2.2.2, [.bool h.s2.1], [.int .i64 h.s2.2.1], bv h.s2.2.2.1, bv h.s2.2.2.2.1, bv h.s2.2.2.2.2, [.bool h.s3.1], [.int .i64 h.s3.2.1], bv h.s3.2.2.1, bv h.s3.2.2.2.1, bv h.s3.2.2.2.2] : List (List Value)).flatten.toArray] w fun e w' => ∃ v'0, e = .returned (.tuple #[v'0, .int .i64 0]) ∧ Mem w [] w' [own v'0 64 ((cutH (layH h)).length) ((cutH (layH h)).flatMap bv)] := by
  obtain ⟨hs, hlg⟩ := check_ok hc
  have hit := long_it hlg
  have hM := Mem.start0 w
  refine f_enter 13 Try.func8 rfl rfl rfl ?_
  intro a hE
  replace hE : Env a 13 [(0, _)] := hE
  refine wp_seq_k (fun K1 hK1 => ?_)
  refine wp_plain [false, true, true] rfl rfl ?_
  have hbl1_4 : h.v0.2.2.1.length = 32 := hk.v0.2.1
  have hbl1_5 : h.v0.2.2.2.length = 32 := hk.v0.2.2
  have hbl1_8 : h.v1.2.2.1.length = 32 := hk.v1.2.1
  have hbl1_9 : h.v1.2.2.2.length = 32 := hk.v1.2.2
  have hbl1_12 : h.s0.2.2.1.length = 16 := hk.s0.2.1
  have hbl1_13 : h.s0.2.2.2.1.length = 32 := hk.s0.2.2.1
  have hbl1_14 : h.s0.2.2.2.2.length = 32 := hk.s0.2.2.2
  have hbl1_17 : h.s1.2.2.1.length = 16 := hk.s1.2.1
  have hbl1_18 : h.s1.2.2.2.1.length = 32 := hk.s1.2.2.1
  have hbl1_19 : h.s1.2.2.2.2.length = 32 := hk.s1.2.2.2
  have hbl1_22 : h.s2.2.2.1.length = 16 := hk.s2.2.1
  have hbl1_23 : h.s2.2.2.2.1.length = 32 := hk.s2.2.2.1
  have hbl1_24 : h.s2.2.2.2.2.length = 32 := hk.s2.2.2.2
  have hbl1_27 : h.s3.2.2.1.length = 16 := hk.s3.2.1
  have hbl1_28 : h.s3.2.2.2.1.length = 32 := hk.s3.2.2.1
  have hbl1_29 : h.s3.2.2.2.2.length = 32 := hk.s3.2.2.2
  refine s_box (ss := [[.int .i64 h.m], [.int .i64 h.r], [.bool h.v0.1], [.int .u64 ((h.v0.2.1 : Nat) : Int)], bv h.v0.2.2.1, bv h.v0.2.2.2, [.bool h.v1.1], [.int .u64 ((h.v1.2.1 : Nat) : Int)], bv h.v1.2.2.1, bv h.v1.2.2.2, [.bool h.s0.1], [.int .i64 h.s0.2.1], bv h.s0.2.2.1, bv h.s0.2.2.2.1, bv h.s0.2.2.2.2, [.bool h.s1.1], [.int .i64 h.s1.2.1], bv h.s1.2.2.1, bv h.s1.2.2.2.1, bv h.s1.2.2.2.2, [.bool h.s2.1], [.int .i64 h.s2.2.1], bv h.s2.2.2.1, bv h.s2.2.2.2.1, bv h.s2.2.2.2.2, [.bool h.s3.1], [.int .i64 h.s3.2.1], bv h.s3.2.2.1, bv h.s3.2.2.2.1, bv h.s3.2.2.2.2]) [1, 1, 1, 1, 32, 32, 1, 1, 32, 32, 1, 1, 16, 32, 32, 1, 1, 16, 32, 32, 1, 1, 16, 32, 32, 1, 1, 16, 32, 32] hE hM rfl rfl (by simp only [List.map_cons, List.map_nil, bv_length, List.length_cons, List.length_nil, List.length_replicate, hbl1_4, hbl1_5, hbl1_8, hbl1_9, hbl1_12, hbl1_13, hbl1_14, hbl1_17, hbl1_18, hbl1_19, hbl1_22, hbl1_23, hbl1_24, hbl1_27, hbl1_28, hbl1_29]) rfl ?_; clear hE a; intro a b1 w1 hE hM'
  clear hM; have hM := hM'; clear hM'
  refine s_assign hE rfl rfl ?_; clear hE a; intro a hE
  refine s_assign hE rfl rfl ?_; clear hE a; intro a hE
  refine q_nil ?_
  replace hE : Env a 13 [(1, _), (2, _), (3, _)] := hE.sel [1, 2, 3] rfl
  refine hK1 _ _ ?_
  refine wp_seq_k (fun K2 hK2 => ?_)
  refine wp_seq_k (fun K3 hK3 => ?_)
  refine wp_plain [true, false, true] rfl rfl ?_
  refine s_loadN hE rfl (hM.get 0 rfl) row39 rfl (by intro X h; cases h) rfl ?_; clear hE a; intro a hE
  replace hE := hE.cast 5 rfl (show _ = Value.agg ([[.int .i64 h.m], [.int .i64 h.r], [.bool h.v0.1], [.int .u64 ((h.v0.2.1 : Nat) : Int)], bv h.v0.2.2.1, bv h.v0.2.2.2, [.bool h.v1.1], [.int .u64 ((h.v1.2.1 : Nat) : Int)], bv h.v1.2.2.1, bv h.v1.2.2.2, [.bool h.s0.1], [.int .i64 h.s0.2.1], bv h.s0.2.2.1, bv h.s0.2.2.2.1, bv h.s0.2.2.2.2, [.bool h.s1.1], [.int .i64 h.s1.2.1], bv h.s1.2.2.1, bv h.s1.2.2.2.1, bv h.s1.2.2.2.2, [.bool h.s2.1], [.int .i64 h.s2.2.1], bv h.s2.2.2.1, bv h.s2.2.2.2.1, bv h.s2.2.2.2.2, [.bool h.s3.1], [.int .i64 h.s3.2.1], bv h.s3.2.2.1, bv h.s3.2.2.2.1, bv h.s3.2.2.2.2] : List (List Value)).flatten.toArray from (by first | rfl | simp only [List.flatten_cons, List.flatten_nil, List.append_nil, List.append_assoc]))
  refine s_call hE rfl Try.call10 (check_c h _ hk ) rfl ?_
  rintro e w2 ⟨rfl, hN⟩
  refine ⟨_, rfl, trivial, ?_⟩; clear hE a; intro a hE
  replace hM : Mem _ _ w2 [_] := hM.call0 hN trivial; clear hN
  refine s_assign hE rfl rfl ?_; clear hE a; intro a hE
  refine q_nil ?_
  replace hE : Env a 13 [(1, _), (2, _), (3, _), (4, _)] := hE.sel [1, 2, 3, 4] rfl
  refine hK3 _ _ ?_
  refine wp_seq_k (fun K4 hK4 => ?_)
  refine wp_plain [true, true] rfl rfl ?_
  refine s_move hE rfl rfl ?_; clear hE a; intro a hE
  refine s_bin hE rfl rfl bin_neq rfl ?_; clear hE a; intro a hE
  refine q_nil ?_
  replace hE : Env a 13 [(1, _), (2, _), (3, _), (4, _), (8, _)] := hE.sel [1, 2, 3, 4, 8] rfl
  refine hK4 _ _ ?_
  replace hE := hE.cast 8 rfl (show _ = Value.bool false from (congrArg Value.bool (by first | rfl | (rw [hc]; rfl) | (simp [hc]; done))))
  refine wp_cond_false (hE.eval rfl) ?_
  refine wp_skip ?_
  refine hK2 _ _ ?_
  refine wp_seq_k (fun K5 hK5 => ?_)
  refine wp_plain [true, false, false, true, true] rfl rfl ?_
  refine s_loadN hE rfl (hM.get 0 rfl) row39 rfl (by intro X h; cases h) rfl ?_; clear hE a; intro a hE
  replace hE := hE.cast 10 rfl (show _ = Value.agg ([[.int .i64 h.m], [.int .i64 h.r], [.bool h.v0.1], [.int .u64 ((h.v0.2.1 : Nat) : Int)], bv h.v0.2.2.1, bv h.v0.2.2.2, [.bool h.v1.1], [.int .u64 ((h.v1.2.1 : Nat) : Int)], bv h.v1.2.2.1, bv h.v1.2.2.2, [.bool h.s0.1], [.int .i64 h.s0.2.1], bv h.s0.2.2.1, bv h.s0.2.2.2.1, bv h.s0.2.2.2.2, [.bool h.s1.1], [.int .i64 h.s1.2.1], bv h.s1.2.2.1, bv h.s1.2.2.2.1, bv h.s1.2.2.2.2, [.bool h.s2.1], [.int .i64 h.s2.2.1], bv h.s2.2.2.1, bv h.s2.2.2.2.1, bv h.s2.2.2.2.2, [.bool h.s3.1], [.int .i64 h.s3.2.1], bv h.s3.2.2.1, bv h.s3.2.2.2.1, bv h.s3.2.2.2.2] : List (List Value)).flatten.toArray from (by first | rfl | simp only [List.flatten_cons, List.flatten_nil, List.append_nil, List.append_assoc]))
  refine s_call hE rfl Try.call20 (hlay_c h _ hk hs hit) rfl ?_
  rintro e w3 ⟨v11, rfl, hN⟩
  refine ⟨_, rfl, trivial, ?_⟩; clear hE a; intro a hE
  replace hM : Mem _ _ w3 [_, _] := hM.call0 hN ⟨rfl, trivial⟩; clear hN
  obtain ⟨cq1, hq1⟩ := own_rd (hM.get 0 rfl)
  refine s_call hE rfl Try.call19 (hcut_c _ (layH h) _ _ hq1 (layH_len hk)) rfl ?_
  rintro e w4 ⟨v12, rfl, hN⟩
  refine ⟨_, rfl, trivial, ?_⟩; clear hE a; intro a hE
  replace hM : Mem _ _ w4 [_, _, _] := hM.call0 hN ⟨rfl, trivial⟩; clear hN
  refine s_assign hE rfl rfl ?_; clear hE a; intro a hE
  refine s_assign hE rfl rfl ?_; clear hE a; intro a hE
  refine q_nil ?_
  replace hE : Env a 13 [(1, _), (2, _), (3, _), (4, _), (8, _)] := hE.sel [1, 2, 3, 4, 8] rfl
  refine hK5 _ _ ?_
  refine wp_ret ?_
  refine f_ret2 hE rfl rfl rfl ?_
  exact ⟨_, (by first | rfl | (simp; done)), hM.pick [0] rfl⟩
theorem hput_no (h : Hd) (w : World) (hk : OkHd h) (hc : checkH h = 2) : Calls Try.prog 8 #[.agg ([[.int .i64 h.m], [.int .i64 h.r], [.bool h.v0.1], [.int .u64 ((h.v0.2.1 : Nat) : Int)], bv h.v0.2.2.1, bv h.v0.2.2.2, [.bool h.v1.1], [.int .u64 ((h.v1.2.1 : Nat) : Int)], bv h.v1.2.2.1, bv h.v1.2.2.2, [.bool h.s0.1], [.int .i64 h.s0.2.1], bv h.s0.2.2.1, bv h.s0.2.2.2.1, bv h.s0.2.2.2.2, [.bool h.s1.1], [.int .i64 h.s1.2.1], bv h.s1.2.2.1, bv h.s1.2.2.2.1, bv h.s1.2.2.2.2, [.bool h.s2.1], [.int .i64 h.s2.2.1], bv h.s2.2.2.1, bv h.s2.2.2.2.1, bv h.s2.2.2.2.2, [.bool h.s3.1], [.int .i64 h.s3.2.1], bv h.s3.2.2.1, bv h.s3.2.2.2.1, bv h.s3.2.2.2.2] : List (List Value)).flatten.toArray] w fun e w' => e = .returned (.tuple #[.slice none 0 0, .int .i64 2]) ∧ Mem w [] w' [] := by
  have hM := Mem.start0 w
  refine f_enter 13 Try.func8 rfl rfl rfl ?_
  intro a hE
  replace hE : Env a 13 [(0, _)] := hE
  refine wp_seq_k (fun K1 hK1 => ?_)
  refine wp_plain [false, true, true] rfl rfl ?_
  have hbl1_4 : h.v0.2.2.1.length = 32 := hk.v0.2.1
  have hbl1_5 : h.v0.2.2.2.length = 32 := hk.v0.2.2
  have hbl1_8 : h.v1.2.2.1.length = 32 := hk.v1.2.1
  have hbl1_9 : h.v1.2.2.2.length = 32 := hk.v1.2.2
  have hbl1_12 : h.s0.2.2.1.length = 16 := hk.s0.2.1
  have hbl1_13 : h.s0.2.2.2.1.length = 32 := hk.s0.2.2.1
  have hbl1_14 : h.s0.2.2.2.2.length = 32 := hk.s0.2.2.2
  have hbl1_17 : h.s1.2.2.1.length = 16 := hk.s1.2.1
  have hbl1_18 : h.s1.2.2.2.1.length = 32 := hk.s1.2.2.1
  have hbl1_19 : h.s1.2.2.2.2.length = 32 := hk.s1.2.2.2
  have hbl1_22 : h.s2.2.2.1.length = 16 := hk.s2.2.1
  have hbl1_23 : h.s2.2.2.2.1.length = 32 := hk.s2.2.2.1
  have hbl1_24 : h.s2.2.2.2.2.length = 32 := hk.s2.2.2.2
  have hbl1_27 : h.s3.2.2.1.length = 16 := hk.s3.2.1
  have hbl1_28 : h.s3.2.2.2.1.length = 32 := hk.s3.2.2.1
  have hbl1_29 : h.s3.2.2.2.2.length = 32 := hk.s3.2.2.2
  refine s_box (ss := [[.int .i64 h.m], [.int .i64 h.r], [.bool h.v0.1], [.int .u64 ((h.v0.2.1 : Nat) : Int)], bv h.v0.2.2.1, bv h.v0.2.2.2, [.bool h.v1.1], [.int .u64 ((h.v1.2.1 : Nat) : Int)], bv h.v1.2.2.1, bv h.v1.2.2.2, [.bool h.s0.1], [.int .i64 h.s0.2.1], bv h.s0.2.2.1, bv h.s0.2.2.2.1, bv h.s0.2.2.2.2, [.bool h.s1.1], [.int .i64 h.s1.2.1], bv h.s1.2.2.1, bv h.s1.2.2.2.1, bv h.s1.2.2.2.2, [.bool h.s2.1], [.int .i64 h.s2.2.1], bv h.s2.2.2.1, bv h.s2.2.2.2.1, bv h.s2.2.2.2.2, [.bool h.s3.1], [.int .i64 h.s3.2.1], bv h.s3.2.2.1, bv h.s3.2.2.2.1, bv h.s3.2.2.2.2]) [1, 1, 1, 1, 32, 32, 1, 1, 32, 32, 1, 1, 16, 32, 32, 1, 1, 16, 32, 32, 1, 1, 16, 32, 32, 1, 1, 16, 32, 32] hE hM rfl rfl (by simp only [List.map_cons, List.map_nil, bv_length, List.length_cons, List.length_nil, List.length_replicate, hbl1_4, hbl1_5, hbl1_8, hbl1_9, hbl1_12, hbl1_13, hbl1_14, hbl1_17, hbl1_18, hbl1_19, hbl1_22, hbl1_23, hbl1_24, hbl1_27, hbl1_28, hbl1_29]) rfl ?_; clear hE a; intro a b1 w1 hE hM'
  clear hM; have hM := hM'; clear hM'
  refine s_assign hE rfl rfl ?_; clear hE a; intro a hE
  refine s_assign hE rfl rfl ?_; clear hE a; intro a hE
  refine q_nil ?_
  replace hE : Env a 13 [(1, _), (2, _), (3, _)] := hE.sel [1, 2, 3] rfl
  refine hK1 _ _ ?_
  refine wp_seq_k (fun K2 hK2 => ?_)
  refine wp_seq_k (fun K3 hK3 => ?_)
  refine wp_plain [true, false, true] rfl rfl ?_
  refine s_loadN hE rfl (hM.get 0 rfl) row39 rfl (by intro X h; cases h) rfl ?_; clear hE a; intro a hE
  replace hE := hE.cast 5 rfl (show _ = Value.agg ([[.int .i64 h.m], [.int .i64 h.r], [.bool h.v0.1], [.int .u64 ((h.v0.2.1 : Nat) : Int)], bv h.v0.2.2.1, bv h.v0.2.2.2, [.bool h.v1.1], [.int .u64 ((h.v1.2.1 : Nat) : Int)], bv h.v1.2.2.1, bv h.v1.2.2.2, [.bool h.s0.1], [.int .i64 h.s0.2.1], bv h.s0.2.2.1, bv h.s0.2.2.2.1, bv h.s0.2.2.2.2, [.bool h.s1.1], [.int .i64 h.s1.2.1], bv h.s1.2.2.1, bv h.s1.2.2.2.1, bv h.s1.2.2.2.2, [.bool h.s2.1], [.int .i64 h.s2.2.1], bv h.s2.2.2.1, bv h.s2.2.2.2.1, bv h.s2.2.2.2.2, [.bool h.s3.1], [.int .i64 h.s3.2.1], bv h.s3.2.2.1, bv h.s3.2.2.2.1, bv h.s3.2.2.2.2] : List (List Value)).flatten.toArray from (by first | rfl | simp only [List.flatten_cons, List.flatten_nil, List.append_nil, List.append_assoc]))
  refine s_call hE rfl Try.call10 (check_c h _ hk ) rfl ?_
  rintro e w2 ⟨rfl, hN⟩
  refine ⟨_, rfl, trivial, ?_⟩; clear hE a; intro a hE
  replace hM : Mem _ _ w2 [_] := hM.call0 hN trivial; clear hN
  refine s_assign hE rfl rfl ?_; clear hE a; intro a hE
  refine q_nil ?_
  replace hE : Env a 13 [(1, _), (2, _), (3, _), (4, _)] := hE.sel [1, 2, 3, 4] rfl
  refine hK3 _ _ ?_
  refine wp_seq_k (fun K4 hK4 => ?_)
  refine wp_plain [true, true] rfl rfl ?_
  refine s_move hE rfl rfl ?_; clear hE a; intro a hE
  refine s_bin hE rfl rfl bin_neq rfl ?_; clear hE a; intro a hE
  refine q_nil ?_
  replace hE : Env a 13 [(1, _), (2, _), (3, _), (4, _), (8, _)] := hE.sel [1, 2, 3, 4, 8] rfl
  refine hK4 _ _ ?_
  replace hE := hE.cast 8 rfl (show _ = Value.bool true from (congrArg Value.bool (by first | rfl | (rw [hc]; rfl) | (simp [hc]; done))))
  refine wp_cond_true (hE.eval rfl) ?_
  refine wp_seq_k (fun K5 hK5 => ?_)
  refine wp_plain [true, true, true] rfl rfl ?_
  refine s_move hE rfl rfl ?_; clear hE a; intro a hE
  refine s_assign hE rfl rfl ?_; clear hE a; intro a hE
  refine s_assign hE rfl rfl ?_; clear hE a; intro a hE
  refine q_nil ?_
  replace hE : Env a 13 [(1, _), (2, _), (3, _), (4, _), (8, _)] := hE.sel [1, 2, 3, 4, 8] rfl
  refine hK5 _ _ ?_
  refine wp_ret ?_
  refine q_then_r ?_
  refine f_ret2 hE rfl rfl rfl ?_
  exact ⟨(by first | rfl | (simp [hc]; done)), hM.pick [] rfl⟩
end Go.Proofs.Ytamjaacddbecaaa
