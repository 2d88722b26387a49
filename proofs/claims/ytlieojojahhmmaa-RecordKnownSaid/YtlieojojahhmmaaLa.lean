/- Walks of functions of the given program that the claim reaches. -/
import Derived.Test.YtlieojojahhmmaaLi
import Derived.Test.YtlieojojahhmmaaSh
set_option linter.unusedSimpArgs false
set_option linter.unusedVariables false
namespace Go.Proofs.Ytlieojojahhmmaa
open Go Go.Kx
theorem kl67 : ∀ {k : Nat} {x0 : Int} {x1 : List UInt8} {x2 : List UInt8} {x3 : List UInt8} {x4 : Int} {x5 : Int} (hx0 : (Lit.int .u64 x0).wf = true) (hx1 : x1.length = 32) (hx2 : x2.length = 32) (hx3 : x3.length = 32) (hx4 : (Lit.int .i64 x4).wf = true) (hx5 : (Lit.int .i64 x5).wf = true), KL Try.prog (k + 3) 67 ([[.int .u64 x0], bv x1, bv x2, bv x3, [.int .i64 x4], [.int .i64 x5]].flatten) := fun {k} {x0} {x1} {x2} {x3} {x4} {x5} hx0 hx1 hx2 hx3 hx4 hx5 => KL.struct [1, 32, 32, 32, 1, 1] Try.underlying67 (by kernel_rfl) (by kernel_rfl) (by kernel_rfl) (by simp [*]) [24, 27, 27, 27, 3, 3] (by kernel_rfl) ⟨KL.int Try.underlying24 hx0, KL.arr8 Try.underlying27 Try.underlying5 (by kernel_rfl) (by kernel_rfl) hx1, KL.arr8 Try.underlying27 Try.underlying5 (by kernel_rfl) (by kernel_rfl) hx2, KL.arr8 Try.underlying27 Try.underlying5 (by kernel_rfl) (by kernel_rfl) hx3, KL.int Try.underlying3 hx4, KL.int Try.underlying3 hx5, trivial⟩
theorem eqk67 : ∀ {cs ds : List Value} {b : Bool} {k k' : Nat}, KL Try.prog k 67 cs → KL Try.prog k' 67 ds → (b = true ↔ cs = ds) → Bin Try.prog .eql 67 (.agg cs.toArray) (.agg ds.toArray) (.bool b) ∧ Bin Try.prog .neq 67 (.agg cs.toArray) (.agg ds.toArray) (.bool (!b)) := fun h1 h2 hb => bins_key (m := 3) (by kernel_rfl) rfl (by kernel_rfl) (by rw [Try.underlying67]) h1 h2 hb
theorem rep21_c (n : Nat) (w : World) (hn : n ≤ 100000) : Calls Try.prog 63 #[.string (str [0]), .int .i64 n] w fun e w' => e = .returned (.string (str (List.replicate n 0))) ∧ Mem w [] w' [] :=
  (Try.strings_Repeat (str [0]) n w (by omega) (by show 1 * n ≤ _; omega)).mono fun e w' ⟨h1, h2⟩ => ⟨by rw [h1, show Lib.repeatL (str [0]).data.toList n = List.replicate n 0 from rep_list 0 n]; rfl, Mem.ofBelow h2⟩
def givenL : List UInt8 := [67, 65, 83, 69, 82, 79, 79, 84, 0, 0, 0, 0, 0, 0, 1, 2, 0, 0, 0, 0, 0, 0, 0, 0, 0, 0, 0, 0, 0, 0, 0, 0, 0, 0, 0, 0, 0, 0, 0, 0, 0, 0, 0, 0, 0, 0, 0, 0, 0, 0, 0, 0, 0, 0, 0, 0, 0, 0, 0, 0, 0, 0, 0, 0, 0, 0, 0, 0, 0, 0, 0, 0, 0, 0, 0, 0, 0, 0, 0, 0, 0, 0, 0, 0, 0, 0, 0, 0, 0, 0, 0, 0, 0, 0, 0, 0, 0, 0, 0, 0, 0, 0, 0, 0, 0, 0, 0, 0, 0, 0, 0, 0, 0, 0, 0, 1, 0, 0, 0, 2, 0, 0, 0, 0, 0, 0, 0, 0]
@[simp] theorem givenL_len : givenL.length = 128 := by decide +kernel
theorem zeros_c (n : Nat) (w : World) (hn : n ≤ 100000) : Calls Try.prog 38 #[.int .i64 (n : Int)] w fun e w' => e = .returned (.string (str (List.replicate n 0))) ∧ Mem w [] w' [] := by
  have hM := Mem.start0 w
  refine f_enter 5 Try.func38 rfl rfl rfl ?_
  intro a hE
  replace hE : Env a 5 [(0, _)] := hE
  refine wp_seq_k (fun K1 hK1 => ?_)
  refine wp_plain [true] rfl rfl ?_
  refine s_assign hE rfl rfl ?_; clear hE a; intro a hE
  refine q_nil ?_
  refine hK1 _ _ ?_
  refine wp_seq_k (fun K2 hK2 => ?_)
  refine wp_plain [true, false, true] rfl rfl ?_
  refine s_move hE rfl rfl ?_; clear hE a; intro a hE
  refine s_call hE rfl Try.call63 (rep21_c n _ (by first | omega | assumption | (simp; done) | (simp; omega) | decide)) rfl ?_
  rintro e w1 ⟨rfl, hN⟩
  refine ⟨_, rfl, trivial, ?_⟩; clear hE a; intro a hE
  replace hM : Mem _ _ w1 [] := hM.call0 hN trivial; clear hN
  refine s_assign hE rfl rfl ?_; clear hE a; intro a hE
  refine q_nil ?_
  replace hE : Env a 5 [(2, _)] := hE.sel [2] rfl
  refine hK2 _ _ ?_
  refine wp_ret ?_
  refine f_ret1 hE rfl rfl ?_
  exact ⟨(by first | rfl | (simp; done)), hM.pick [] rfl⟩
theorem given_c  (w : World)  : Calls Try.prog 36 #[] w fun e w' => e = .returned (.string (str givenL)) ∧ Mem w [] w' [] := by
  have hM := Mem.start0 w
  refine f_enter 9 Try.func36 rfl rfl rfl ?_
  intro a hE
  replace hE : Env a 9 [] := hE
  refine wp_seq_k (fun K1 hK1 => ?_)
  refine wp_plain [true] rfl rfl ?_
  refine s_assign hE rfl rfl ?_; clear hE a; intro a hE
  refine q_nil ?_
  refine hK1 _ _ ?_
  refine wp_seq_k (fun K2 hK2 => ?_)
  refine wp_plain [false, true, true, false, true, true, false, true, true] rfl rfl ?_
  refine s_call hE rfl Try.call38 (zeros_c 6 _ (by first | omega | assumption | (simp; done) | (simp; omega) | decide)) rfl ?_
  rintro e w1 ⟨rfl, hN⟩
  refine ⟨_, rfl, trivial, ?_⟩; clear hE a; intro a hE
  replace hM : Mem _ _ w1 [] := hM.call0 hN trivial; clear hN
  refine s_bin hE rfl rfl (show Bin _ _ _ (.string (str [67, 65, 83, 69, 82, 79, 79, 84])) (.string (str (List.replicate 6 (0 : UInt8)))) (.string (str ([67, 65, 83, 69, 82, 79, 79, 84] ++ (List.replicate 6 (0 : UInt8))))) from bin_strs (by have hl_y : (List.replicate 6 (0 : UInt8)).length = 6 := (by simp); first | omega | (simp; done) | (simp; omega))) rfl ?_; clear hE a; intro a hE
  refine s_bin hE rfl rfl (show Bin _ _ _ (.string (str ([67, 65, 83, 69, 82, 79, 79, 84] ++ (List.replicate 6 (0 : UInt8))))) (.string (str [1, 2])) (.string (str (([67, 65, 83, 69, 82, 79, 79, 84] ++ (List.replicate 6 (0 : UInt8))) ++ [1, 2]))) from bin_strs (by have hl_x : ([67, 65, 83, 69, 82, 79, 79, 84] ++ (List.replicate 6 (0 : UInt8))).length = [67, 65, 83, 69, 82, 79, 79, 84].length + 6 := (by have hl_q : (List.replicate 6 (0 : UInt8)).length = 6 := (by simp); rw [List.length_append]; omega); first | omega | (simp; done) | (simp; omega))) rfl ?_; clear hE a; intro a hE
  refine s_call hE rfl Try.call38 (zeros_c 96 _ (by first | omega | assumption | (simp; done) | (simp; omega) | decide)) rfl ?_
  rintro e w2 ⟨rfl, hN⟩
  refine ⟨_, rfl, trivial, ?_⟩; clear hE a; intro a hE
  replace hM : Mem _ _ w2 [] := hM.call0 hN trivial; clear hN
  refine s_bin hE rfl rfl (show Bin _ _ _ (.string (str (([67, 65, 83, 69, 82, 79, 79, 84] ++ (List.replicate 6 (0 : UInt8))) ++ [1, 2]))) (.string (str (List.replicate 96 (0 : UInt8)))) (.string (str ((([67, 65, 83, 69, 82, 79, 79, 84] ++ (List.replicate 6 (0 : UInt8))) ++ [1, 2]) ++ (List.replicate 96 (0 : UInt8))))) from bin_strs (by have hl_x : (([67, 65, 83, 69, 82, 79, 79, 84] ++ (List.replicate 6 (0 : UInt8))) ++ [1, 2]).length = [67, 65, 83, 69, 82, 79, 79, 84].length + 6 + ([1, 2].length) := (by have hl_p : ([67, 65, 83, 69, 82, 79, 79, 84] ++ (List.replicate 6 (0 : UInt8))).length = [67, 65, 83, 69, 82, 79, 79, 84].length + 6 := (by have hl_q : (List.replicate 6 (0 : UInt8)).length = 6 := (by simp); rw [List.length_append]; omega); rw [List.length_append]; omega); have hl_y : (List.replicate 96 (0 : UInt8)).length = 96 := (by simp); first | omega | (simp; done) | (simp; omega))) rfl ?_; clear hE a; intro a hE
  refine s_bin hE rfl rfl (show Bin _ _ _ (.string (str ((([67, 65, 83, 69, 82, 79, 79, 84] ++ (List.replicate 6 (0 : UInt8))) ++ [1, 2]) ++ (List.replicate 96 (0 : UInt8))))) (.string (str [0, 0, 0, 1, 0, 0, 0, 2])) (.string (str (((([67, 65, 83, 69, 82, 79, 79, 84] ++ (List.replicate 6 (0 : UInt8))) ++ [1, 2]) ++ (List.replicate 96 (0 : UInt8))) ++ [0, 0, 0, 1, 0, 0, 0, 2]))) from bin_strs (by have hl_x : ((([67, 65, 83, 69, 82, 79, 79, 84] ++ (List.replicate 6 (0 : UInt8))) ++ [1, 2]) ++ (List.replicate 96 (0 : UInt8))).length = [67, 65, 83, 69, 82, 79, 79, 84].length + 6 + ([1, 2].length) + 96 := (by have hl_p : (([67, 65, 83, 69, 82, 79, 79, 84] ++ (List.replicate 6 (0 : UInt8))) ++ [1, 2]).length = [67, 65, 83, 69, 82, 79, 79, 84].length + 6 + ([1, 2].length) := (by have hl_p : ([67, 65, 83, 69, 82, 79, 79, 84] ++ (List.replicate 6 (0 : UInt8))).length = [67, 65, 83, 69, 82, 79, 79, 84].length + 6 := (by have hl_q : (List.replicate 6 (0 : UInt8)).length = 6 := (by simp); rw [List.length_append]; omega); rw [List.length_append]; omega); have hl_q : (List.replicate 96 (0 : UInt8)).length = 96 := (by simp); rw [List.length_append]; omega); first | omega | (simp; done) | (simp; omega))) rfl ?_; clear hE a; intro a hE
  refine s_call hE rfl Try.call38 (zeros_c 8 _ (by first | omega | assumption | (simp; done) | (simp; omega) | decide)) rfl ?_
  rintro e w3 ⟨rfl, hN⟩
  refine ⟨_, rfl, trivial, ?_⟩; clear hE a; intro a hE
  replace hM : Mem _ _ w3 [] := hM.call0 hN trivial; clear hN
  refine s_bin hE rfl rfl (show Bin _ _ _ (.string (str (((([67, 65, 83, 69, 82, 79, 79, 84] ++ (List.replicate 6 (0 : UInt8))) ++ [1, 2]) ++ (List.replicate 96 (0 : UInt8))) ++ [0, 0, 0, 1, 0, 0, 0, 2]))) (.string (str (List.replicate 8 (0 : UInt8)))) (.string (str ((((([67, 65, 83, 69, 82, 79, 79, 84] ++ (List.replicate 6 (0 : UInt8))) ++ [1, 2]) ++ (List.replicate 96 (0 : UInt8))) ++ [0, 0, 0, 1, 0, 0, 0, 2]) ++ (List.replicate 8 (0 : UInt8))))) from bin_strs (by have hl_x : (((([67, 65, 83, 69, 82, 79, 79, 84] ++ (List.replicate 6 (0 : UInt8))) ++ [1, 2]) ++ (List.replicate 96 (0 : UInt8))) ++ [0, 0, 0, 1, 0, 0, 0, 2]).length = [67, 65, 83, 69, 82, 79, 79, 84].length + 6 + ([1, 2].length) + 96 + ([0, 0, 0, 1, 0, 0, 0, 2].length) := (by have hl_p : ((([67, 65, 83, 69, 82, 79, 79, 84] ++ (List.replicate 6 (0 : UInt8))) ++ [1, 2]) ++ (List.replicate 96 (0 : UInt8))).length = [67, 65, 83, 69, 82, 79, 79, 84].length + 6 + ([1, 2].length) + 96 := (by have hl_p : (([67, 65, 83, 69, 82, 79, 79, 84] ++ (List.replicate 6 (0 : UInt8))) ++ [1, 2]).length = [67, 65, 83, 69, 82, 79, 79, 84].length + 6 + ([1, 2].length) := (by have hl_p : ([67, 65, 83, 69, 82, 79, 79, 84] ++ (List.replicate 6 (0 : UInt8))).length = [67, 65, 83, 69, 82, 79, 79, 84].length + 6 := (by have hl_q : (List.replicate 6 (0 : UInt8)).length = 6 := (by simp); rw [List.length_append]; omega); rw [List.length_append]; omega); have hl_q : (List.replicate 96 (0 : UInt8)).length = 96 := (by simp); rw [List.length_append]; omega); rw [List.length_append]; omega); have hl_y : (List.replicate 8 (0 : UInt8)).length = 8 := (by simp); first | omega | (simp; done) | (simp; omega))) rfl ?_; clear hE a; intro a hE
  refine s_assign hE rfl rfl ?_; clear hE a; intro a hE
  refine q_nil ?_
  replace hE : Env a 9 [(0, _)] := hE.sel [0] rfl
  refine hK2 _ _ ?_
  refine wp_ret ?_
  refine f_ret1 hE rfl rfl ?_
  exact ⟨(congrArg (fun l => Ending.returned (Value.string (str l))) (by decide +kernel)), hM.pick [] rfl⟩
theorem awake21_c  (w : World)  : Calls Try.prog 30 #[] w fun e w' => e = .returned (.bool true) ∧ Mem w [] w' [] := by
  have hM := Mem.start0 w
  refine f_enter 33 Try.func30 rfl rfl rfl ?_
  intro a hE
  replace hE : Env a 33 [] := hE
  refine wp_seq_k (fun K1 hK1 => ?_)
  refine wp_plain [true] rfl rfl ?_
  refine s_assign hE rfl rfl ?_; clear hE a; intro a hE
  refine q_nil ?_
  refine hK1 _ _ ?_
  refine wp_seq_k (fun K2 hK2 => ?_)
  refine wp_plain [true, false, true, true, true, true, true] rfl rfl ?_
  refine s_buildS [[.int .u64 258], [.int .i64 1], [.int .i64 2]] hE rfl zero67 rfl fpl67 (by simp [PartsOk, Value.cells, *]) rfl ?_; clear hE a; intro a hE
  replace hE := hE.cast 6 rfl (show _ = Value.agg ([[.int .u64 258], bv (List.replicate 32 (0 : UInt8)), bv (List.replicate 32 (0 : UInt8)), bv (List.replicate 32 (0 : UInt8)), [.int .i64 1], [.int .i64 2]] : List (List Value)).flatten.toArray from (by first | rfl | simp [setAll]))
  refine s_call hE rfl Try.call26 (put_a 258 (List.replicate 32 (0 : UInt8)) (List.replicate 32 (0 : UInt8)) (List.replicate 32 (0 : UInt8)) 1 2 _ (by first | (simp; done) | (simp [*]; done) | (simp; omega)) (by first | (simp; done) | (simp [*]; done) | (simp; omega)) (by first | (simp; done) | (simp [*]; done) | (simp; omega))) rfl ?_
  rintro e w1 ⟨v7, rfl, hN⟩
  refine ⟨_, rfl, trivial, ?_⟩; clear hE a; intro a hE
  replace hM : Mem _ _ w1 [_] := hM.call0 hN ⟨rfl, trivial⟩; clear hN
  refine s_move hE rfl rfl ?_; clear hE a; intro a hE
  refine s_extract hE rfl rfl rfl ?_; clear hE a; intro a hE
  refine s_extract hE rfl rfl rfl ?_; clear hE a; intro a hE
  refine s_assign hE rfl rfl ?_; clear hE a; intro a hE
  refine s_assign hE rfl rfl ?_; clear hE a; intro a hE
  refine q_nil ?_
  replace hE : Env a 33 [(0, _), (1, _), (2, _)] := hE.sel [0, 1, 2] rfl
  refine hK2 _ _ ?_
  refine wp_seq_k (fun K3 hK3 => ?_)
  refine wp_plain [false, false, false, true, true, true, false, false, true] rfl rfl ?_
  refine s_call hE rfl Try.call36 (given_c  _ ) rfl ?_
  rintro e w2 ⟨rfl, hN⟩
  refine ⟨_, rfl, trivial, ?_⟩; clear hE a; intro a hE
  replace hM : Mem _ _ w2 [_] := hM.call0 hN trivial; clear hN
  refine s_ofStr hE rfl hM Try.underlying9 Try.underlying55 Try.underlying5 (len47 (by have hl_ : givenL.length = 128 := givenL_len; first | (simp only [str_size]; omega) | omega | decide | (simp; done) | (simp; omega))) rfl ?_; clear hE a; intro a v12 w3 hE hM'; clear hM; have hM := hM'; clear hM'
  replace hM := hM.ownEq (m' := givenL.length) (cs' := bv givenL) (by first | rfl | simp | decide | kernel_rfl) (by first | rfl | simp | kernel_rfl)
  obtain ⟨cq1, hq1⟩ := own_rd (hM.get 0 rfl)
  refine s_call hE rfl Try.call28 (get_yes _ givenL _ _ hq1 (by decide +kernel)) rfl ?_
  rintro e w4 ⟨rfl, hN⟩
  refine ⟨_, rfl, trivial, ?_⟩; clear hE a; intro a hE
  replace hM : Mem _ _ w4 [_, _] := hM.call0 hN trivial; clear hN
  refine s_move hE rfl rfl ?_; clear hE a; intro a hE
  refine s_extract hE rfl rfl rfl ?_; clear hE a; intro a hE
  refine s_extract hE rfl rfl rfl ?_; clear hE a; intro a hE
  refine s_alloc [1, 32, 32, 32, 1, 1] hE hM zero67 rfl rfl ?_; clear hE a; intro a b3 w5 hE hM'
  clear hM; have hM := hM'; clear hM'
  refine s_storeSegs 0 6 (vss := [[.int .u64 ((val ((givenL.drop 8).take 8) : Nat) : Int)], bv ((givenL.drop 16).take 32), bv ((givenL.drop 48).take 32), bv ((givenL.drop 80).take 32), [.int .i64 ((val ((givenL.drop 112).take 4) : Nat) : Int)], [.int .i64 ((val ((givenL.drop 116).take 4) : Nat) : Int)]]) hE rfl rfl hM rfl sz67 (by have hl_s1 : ((givenL.drop 16).take 32).length = 32 := (by simp [*]); have hl_s2 : ((givenL.drop 48).take 32).length = 32 := (by simp [*]); have hl_s3 : ((givenL.drop 80).take 32).length = 32 := (by simp [*]);  simp only [List.map_cons, List.map_nil, bv_length, List.length_cons, List.length_nil, List.take_succ_cons, List.take_zero, List.drop_zero, List.drop_succ_cons, hl_s1, hl_s2, hl_s3]) (by decide) rfl (one_fl ⟨one1 rfl, bv_one _, bv_one _, bv_one _, one1 rfl, one1 rfl, trivial⟩) rfl (by intro X h; cases h) ?_; intro w6 hM'; clear hM; have hM := hM'; clear hM'
  simp only [List.take_zero, List.take_succ_cons, List.drop_zero, List.drop_succ_cons, List.take_nil, List.drop_nil, List.nil_append, List.append_nil, List.cons_append] at hM
  refine s_assign hE rfl rfl ?_; clear hE a; intro a hE
  refine q_nil ?_
  replace hE : Env a 33 [(0, _), (1, _), (2, _), (3, _), (4, _)] := hE.sel [0, 1, 2, 3, 4] rfl
  refine hK3 _ _ ?_
  refine wp_seq_k (fun K4 hK4 => ?_)
  refine wp_drawnM hM (by kernel_rfl) (fun _ => False) [(0, true), (1, true), (2, false), (3, true), (4, true), (5, true), (6, true), (7, true), (8, true), (9, true), (10, true), (11, true), (12, true), (13, true), (14, true), (15, true), (16, true), (17, true)] [(2, [(3, 2), (4, 2), (5, 4), (6, 4), (7, 4), (8, 4), (9, 8), (10, 8), (11, 8), (12, 8), (13, 8), (14, 13), (15, 13), (16, 13), (17, 2)])] (by kernel_rfl) rfl ?_
  intro w7 hM' hww7; clear hM; have hM := hM'; clear hM'
  refine s_move hE rfl rfl ?_; clear hE a; intro a hE
  obtain ⟨cs17, hs17⟩ := own_rd (hM.get 2 rfl)
  refine s_toStr hE rfl Try.underlying55 Try.underlying5 Try.underlying9 hs17 (by intro X h; cases h; simp) rfl ?_; clear hE a; intro a hE
  refine s_call hE rfl Try.call36 (given_c  _ ) rfl ?_
  rintro e w8 ⟨rfl, hN⟩
  refine ⟨_, rfl, hN.sta0 _, ?_⟩; clear hE a; intro a hE
  replace hM : Mem _ _ w8 [_, _, _] := hM.call0 hN trivial; clear hN
  refine s_bin hE rfl rfl bins_str.1 rfl ?_; clear hE a; intro a hE
  refine s_move hE rfl rfl ?_; clear hE a; intro a hE
  replace hE := hE.cast 20 rfl (show _ = Value.bool true from (congrArg Value.bool (by first | (with_reducible exact decide_eq_true rfl) | decide +kernel | (simp; done))))
  refine g_yes hE rfl rfl ?_
  refine s_move hE rfl rfl ?_; clear hE a; intro a hE
  refine g_yes hE rfl rfl ?_
  refine s_bin hE rfl rfl bin_eql rfl ?_; clear hE a; intro a hE
  refine s_pickt hE rfl rfl rfl ?_; clear hE a; intro a hE
  refine s_move hE rfl rfl ?_; clear hE a; intro a hE
  replace hE := hE.cast 24 rfl (show _ = Value.bool true from (congrArg Value.bool (by first | (with_reducible exact decide_eq_true rfl) | decide +kernel | (simp; done))))
  refine g_yes hE rfl rfl ?_
  refine s_loadN hE rfl (hM.get 0 rfl) row67 rfl (by intro X h; cases h; simp) rfl ?_; clear hE a; intro a hE
  replace hE := hE.cast 25 rfl (show _ = Value.agg ([[.int .u64 ((val ((givenL.drop 8).take 8) : Nat) : Int)], bv ((givenL.drop 16).take 32), bv ((givenL.drop 48).take 32), bv ((givenL.drop 80).take 32), [.int .i64 ((val ((givenL.drop 112).take 4) : Nat) : Int)], [.int .i64 ((val ((givenL.drop 116).take 4) : Nat) : Int)]] : List (List Value)).flatten.toArray from (by first | rfl | simp))
  refine g_yes hE rfl rfl ?_
  refine s_buildS [[.int .u64 258], [.int .i64 1], [.int .i64 2]] hE rfl zero67 rfl fpl67 (by simp [PartsOk, Value.cells, *]) rfl ?_; clear hE a; intro a hE
  replace hE := hE.cast 26 rfl (show _ = Value.agg ([[.int .u64 258], bv (List.replicate 32 (0 : UInt8)), bv (List.replicate 32 (0 : UInt8)), bv (List.replicate 32 (0 : UInt8)), [.int .i64 1], [.int .i64 2]] : List (List Value)).flatten.toArray from (by first | rfl | simp [setAll]))
  refine g_yes hE rfl rfl ?_
  refine s_bin hE rfl rfl ((eqk67 (b := decide ((((val ((givenL.drop 8).take 8) : Nat) : Int) : Int) = 258 ∧ ((givenL.drop 16).take 32) = (List.replicate 32 (0 : UInt8)) ∧ ((givenL.drop 48).take 32) = (List.replicate 32 (0 : UInt8)) ∧ ((givenL.drop 80).take 32) = (List.replicate 32 (0 : UInt8)) ∧ (((val ((givenL.drop 112).take 4) : Nat) : Int) : Int) = 1 ∧ (((val ((givenL.drop 116).take 4) : Nat) : Int) : Int) = 2)) (kl67 (k := 0) (x0 := ((val ((givenL.drop 8).take 8) : Nat) : Int)) (x1 := (givenL.drop 16).take 32) (x2 := (givenL.drop 48).take 32) (x3 := (givenL.drop 80).take 32) (x4 := ((val ((givenL.drop 112).take 4) : Nat) : Int)) (x5 := ((val ((givenL.drop 116).take 4) : Nat) : Int)) (by decide +kernel) (by simp [*]) (by simp [*]) (by simp [*]) (by decide +kernel) (by decide +kernel)) (kl67 (k := 0) (x0 := 258) (x1 := List.replicate 32 (0 : UInt8)) (x2 := List.replicate 32 (0 : UInt8)) (x3 := List.replicate 32 (0 : UInt8)) (x4 := 1) (x5 := 2) (by decide +kernel) (by first | (simp; done) | (simp [*]; done) | (simp; omega)) (by first | (simp; done) | (simp [*]; done) | (simp; omega)) (by first | (simp; done) | (simp [*]; done) | (simp; omega)) (by decide +kernel) (by decide +kernel)) (by rw [flat_eq (by have hl_x1 : ((givenL.drop 16).take 32).length = 32 := (by simp [*]); have hl_x2 : ((givenL.drop 48).take 32).length = 32 := (by simp [*]); have hl_x3 : ((givenL.drop 80).take 32).length = 32 := (by simp [*]); have hl_y1 : (List.replicate 32 (0 : UInt8)).length = 32 := (by first | (simp; done) | (simp [*]; done) | (simp; omega)); have hl_y2 : (List.replicate 32 (0 : UInt8)).length = 32 := (by first | (simp; done) | (simp [*]; done) | (simp; omega)); have hl_y3 : (List.replicate 32 (0 : UInt8)).length = 32 := (by first | (simp; done) | (simp [*]; done) | (simp; omega)); simp only [List.map_cons, List.map_nil, bv_length, List.length_cons, List.length_nil, hl_x1, hl_x2, hl_x3, hl_y1, hl_y2, hl_y3])]; simp [bv_iff, Int.ofNat_inj]; try omega)).1) rfl ?_; clear hE a; intro a hE
  refine s_pickt hE rfl rfl rfl ?_; clear hE a; intro a hE
  refine s_move hE rfl rfl ?_; clear hE a; intro a hE
  replace hE := hE.cast 29 rfl (show _ = Value.bool true from (congrArg Value.bool (by first | (with_reducible exact decide_eq_true rfl) | decide +kernel | (simp; done))))
  refine g_yes hE rfl rfl ?_
  refine s_move hE rfl rfl ?_; clear hE a; intro a hE
  refine g_yes hE rfl rfl ?_
  refine s_bin hE rfl rfl bin_eql rfl ?_; clear hE a; intro a hE
  replace hE := hE.cast 31 rfl (show _ = Value.bool true from (congrArg Value.bool (by decide)))
  refine s_pickt hE rfl rfl rfl ?_; clear hE a; intro a hE
  refine s_assign hE rfl rfl ?_; clear hE a; intro a hE
  refine q_nil ?_
  replace hE : Env a 33 [(0, _), (3, _)] := hE.sel [0, 3] rfl
  refine hK4 _ _ ?_
  refine wp_ret ?_
  refine f_ret1 hE rfl rfl ?_
  exact ⟨(by first | rfl | (simp; done)), hM.pick [] rfl⟩
end Go.Proofs.Ytlieojojahhmmaa
