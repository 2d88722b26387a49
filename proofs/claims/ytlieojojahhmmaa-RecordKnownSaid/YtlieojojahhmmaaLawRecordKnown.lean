/- RecordKnown of casematelaw21 returns true. No condition. -/
import Derived.Test.YtlieojojahhmmaaLk
set_option linter.unusedSimpArgs false
set_option linter.unusedVariables false
namespace Go.Proofs.Ytlieojojahhmmaa
open Go Go.Kx
open Go.ChangeShapes Go.WideShapes Go.ChangeAt Go.RowKit

theorem no21_c (s : ByteArray) (w : World) (hs : s.size ≤ 1000) (h : getOk s.data.toList = false) : Calls Try.prog 37 #[.string s] w fun e w' => e = .returned (.bool true) ∧ Mem w [] w' [] := by
  have hM := Mem.start0 w
  refine f_enter 18 Try.func37 rfl rfl rfl ?_
  intro a hE
  replace hE : Env a 18 [(0, _)] := hE
  refine wp_seq_k (fun K1 hK1 => ?_)
  refine wp_plain [true] rfl rfl ?_
  refine s_assign hE rfl rfl ?_; clear hE a; intro a hE
  refine q_nil ?_
  refine hK1 _ _ ?_
  refine wp_seq_k (fun K2 hK2 => ?_)
  refine wp_plain [true, false, false, true, true, true, false, false, true] rfl rfl ?_
  refine s_move hE rfl rfl ?_; clear hE a; intro a hE
  refine s_ofStr hE rfl hM Try.underlying9 Try.underlying55 Try.underlying5 (len47 (by omega)) rfl ?_; clear hE a; intro a v7 w1 hE hM'; clear hM; have hM := hM'; clear hM'
  obtain ⟨cq1, hq1⟩ := own_rd (hM.get 0 rfl)
  refine s_call hE rfl Try.call28 (get_no _ s.data.toList _ _ hq1 h) rfl ?_
  rintro e w2 ⟨rfl, hN⟩
  refine ⟨_, rfl, trivial, ?_⟩; clear hE a; intro a hE
  replace hM : Mem _ _ w2 [_] := hM.call0 hN trivial; clear hN
  refine s_move hE rfl rfl ?_; clear hE a; intro a hE
  refine s_extract hE rfl rfl rfl ?_; clear hE a; intro a hE
  refine s_extract hE rfl rfl rfl ?_; clear hE a; intro a hE
  refine s_alloc [1, 32, 32, 32, 1, 1] hE hM zero67 rfl rfl ?_; clear hE a; intro a b3 w3 hE hM'
  clear hM; have hM := hM'; clear hM'
  refine s_storeSegs 0 6 (vss := [[.int .u64 0], bv (List.replicate 32 (0 : UInt8)), bv (List.replicate 32 (0 : UInt8)), bv (List.replicate 32 (0 : UInt8)), [.int .i64 0], [.int .i64 0]]) hE rfl rfl hM rfl sz67 (by have hl_s1 : (List.replicate 32 (0 : UInt8)).length = 32 := (by first | (simp; done) | (simp [*]; done) | (simp; omega)); have hl_s2 : (List.replicate 32 (0 : UInt8)).length = 32 := (by first | (simp; done) | (simp [*]; done) | (simp; omega)); have hl_s3 : (List.replicate 32 (0 : UInt8)).length = 32 := (by first | (simp; done) | (simp [*]; done) | (simp; omega));  simp only [List.map_cons, List.map_nil, bv_length, List.length_cons, List.length_nil, List.take_succ_cons, List.take_zero, List.drop_zero, List.drop_succ_cons, hl_s1, hl_s2, hl_s3]) (by decide) rfl (one_fl ⟨one1 rfl, bv_one _, bv_one _, bv_one _, one1 rfl, one1 rfl, trivial⟩) rfl (by intro X h; cases h) ?_; intro w4 hM'; clear hM; have hM := hM'; clear hM'
  simp only [List.take_zero, List.take_succ_cons, List.drop_zero, List.drop_succ_cons, List.take_nil, List.drop_nil, List.nil_append, List.append_nil, List.cons_append] at hM
  refine s_assign hE rfl rfl ?_; clear hE a; intro a hE
  refine q_nil ?_
  replace hE : Env a 18 [(2, _), (3, _), (4, _)] := hE.sel [2, 3, 4] rfl
  refine hK2 _ _ ?_
  refine wp_seq_k (fun K3 hK3 => ?_)
  refine wp_plain [true, true, true, true, true, true, true, true] rfl rfl ?_
  refine s_loadN hE rfl (hM.get 0 rfl) row67 rfl (by intro X h; cases h) rfl ?_; clear hE a; intro a hE
  replace hE := hE.cast 11 rfl (show _ = Value.agg ([[.int .u64 0], bv (List.replicate 32 (0 : UInt8)), bv (List.replicate 32 (0 : UInt8)), bv (List.replicate 32 (0 : UInt8)), [.int .i64 0], [.int .i64 0]] : List (List Value)).flatten.toArray from (by first | rfl | simp))
  refine s_buildS [] hE rfl zero67 rfl fpl67 (by simp [PartsOk, Value.cells, *]) rfl ?_; clear hE a; intro a hE
  replace hE := hE.cast 12 rfl (show _ = Value.agg ([[.int .u64 0], bv (List.replicate 32 (0 : UInt8)), bv (List.replicate 32 (0 : UInt8)), bv (List.replicate 32 (0 : UInt8)), [.int .i64 0], [.int .i64 0]] : List (List Value)).flatten.toArray from (by first | rfl | simp [setAll]))
  refine s_bin hE rfl rfl ((eqk67 (b := decide ((0 : Int) = 0 ∧ (List.replicate 32 (0 : UInt8)) = (List.replicate 32 (0 : UInt8)) ∧ (List.replicate 32 (0 : UInt8)) = (List.replicate 32 (0 : UInt8)) ∧ (List.replicate 32 (0 : UInt8)) = (List.replicate 32 (0 : UInt8)) ∧ (0 : Int) = 0 ∧ (0 : Int) = 0)) (kl67 (k := 0) (x0 := 0) (x1 := List.replicate 32 (0 : UInt8)) (x2 := List.replicate 32 (0 : UInt8)) (x3 := List.replicate 32 (0 : UInt8)) (x4 := 0) (x5 := 0) (by decide +kernel) (by first | (simp; done) | (simp [*]; done) | (simp; omega)) (by first | (simp; done) | (simp [*]; done) | (simp; omega)) (by first | (simp; done) | (simp [*]; done) | (simp; omega)) (by decide +kernel) (by decide +kernel)) (kl67 (k := 0) (x0 := 0) (x1 := List.replicate 32 (0 : UInt8)) (x2 := List.replicate 32 (0 : UInt8)) (x3 := List.replicate 32 (0 : UInt8)) (x4 := 0) (x5 := 0) (by decide +kernel) (by first | (simp; done) | (simp [*]; done) | (simp; omega)) (by first | (simp; done) | (simp [*]; done) | (simp; omega)) (by first | (simp; done) | (simp [*]; done) | (simp; omega)) (by decide +kernel) (by decide +kernel)) (by rw [flat_eq (by have hl_x1 : (List.replicate 32 (0 : UInt8)).length = 32 := (by first | (simp; done) | (simp [*]; done) | (simp; omega)); have hl_x2 : (List.replicate 32 (0 : UInt8)).length = 32 := (by first | (simp; done) | (simp [*]; done) | (simp; omega)); have hl_x3 : (List.replicate 32 (0 : UInt8)).length = 32 := (by first | (simp; done) | (simp [*]; done) | (simp; omega)); have hl_y1 : (List.replicate 32 (0 : UInt8)).length = 32 := (by first | (simp; done) | (simp [*]; done) | (simp; omega)); have hl_y2 : (List.replicate 32 (0 : UInt8)).length = 32 := (by first | (simp; done) | (simp [*]; done) | (simp; omega)); have hl_y3 : (List.replicate 32 (0 : UInt8)).length = 32 := (by first | (simp; done) | (simp [*]; done) | (simp; omega)); simp only [List.map_cons, List.map_nil, bv_length, List.length_cons, List.length_nil, hl_x1, hl_x2, hl_x3, hl_y1, hl_y2, hl_y3])]; simp [bv_iff, Int.ofNat_inj]; try omega)).1) rfl ?_; clear hE a; intro a hE
  refine s_move hE rfl rfl ?_; clear hE a; intro a hE
  replace hE := hE.cast 14 rfl (show _ = Value.bool true from (congrArg Value.bool (by first | (with_reducible exact decide_eq_true rfl) | decide +kernel | (simp; done))))
  refine g_yes hE rfl rfl ?_
  refine s_move hE rfl rfl ?_; clear hE a; intro a hE
  refine g_yes hE rfl rfl ?_
  refine s_bin hE rfl rfl bin_eql rfl ?_; clear hE a; intro a hE
  replace hE := hE.cast 16 rfl (show _ = Value.bool true from (congrArg Value.bool (by decide)))
  refine s_pickt hE rfl rfl rfl ?_; clear hE a; intro a hE
  refine s_assign hE rfl rfl ?_; clear hE a; intro a hE
  refine q_nil ?_
  replace hE : Env a 18 [(2, _), (3, _)] := hE.sel [2, 3] rfl
  refine hK3 _ _ ?_
  refine wp_ret ?_
  refine f_ret1 hE rfl rfl ?_
  exact ⟨(by first | rfl | (simp; done)), hM.pick [] rfl⟩
theorem recordKnown_c  (w : World)  : Calls Try.prog 12 #[] w fun e w' => e = .returned (.bool true) ∧ Mem w [] w' [] := by
  have hM := Mem.start0 w
  refine f_enter 175 Try.func12 rfl rfl rfl ?_
  intro a hE
  replace hE : Env a 175 [] := hE
  refine wp_seq_k (fun K1 hK1 => ?_)
  refine wp_plain [true] rfl rfl ?_
  refine s_assign hE rfl rfl ?_; clear hE a; intro a hE
  refine q_nil ?_
  refine hK1 _ _ ?_
  refine wp_seq_k (fun K2 hK2 => ?_)
  refine wp_plain [false, true] rfl rfl ?_
  refine s_call hE rfl Try.call36 (given_c  _ ) rfl ?_
  rintro e w1 ⟨rfl, hN⟩
  refine ⟨_, rfl, trivial, ?_⟩; clear hE a; intro a hE
  replace hM : Mem _ _ w1 [] := hM.call0 hN trivial; clear hN
  refine s_assign hE rfl rfl ?_; clear hE a; intro a hE
  refine q_nil ?_
  replace hE : Env a 175 [(0, _), (1, _)] := hE.sel [0, 1] rfl
  refine hK2 _ _ ?_
  refine wp_seq_k (fun K3 hK3 => ?_)
  refine wp_plain [true, false, true, true, true, true, true] rfl rfl ?_
  refine s_buildS [[.int .i64 (-1)]] hE rfl zero67 rfl fpl67 (by simp [PartsOk, Value.cells, *]) rfl ?_; clear hE a; intro a hE
  replace hE := hE.cast 25 rfl (show _ = Value.agg ([[.int .u64 0], bv (List.replicate 32 (0 : UInt8)), bv (List.replicate 32 (0 : UInt8)), bv (List.replicate 32 (0 : UInt8)), [.int .i64 (-1)], [.int .i64 0]] : List (List Value)).flatten.toArray from (by first | rfl | simp [setAll]))
  refine s_call hE rfl Try.call26 (put_a 0 (List.replicate 32 (0 : UInt8)) (List.replicate 32 (0 : UInt8)) (List.replicate 32 (0 : UInt8)) (-1) 0 _ (by first | (simp; done) | (simp [*]; done) | (simp; omega)) (by first | (simp; done) | (simp [*]; done) | (simp; omega)) (by first | (simp; done) | (simp [*]; done) | (simp; omega))) rfl ?_
  rintro e w2 ⟨v26, rfl, hN⟩
  refine ⟨_, rfl, trivial, ?_⟩; clear hE a; intro a hE
  replace hM : Mem _ _ w2 [_] := hM.call0 hN ⟨rfl, trivial⟩; clear hN
  refine s_move hE rfl rfl ?_; clear hE a; intro a hE
  refine s_extract hE rfl rfl rfl ?_; clear hE a; intro a hE
  refine s_extract hE rfl rfl rfl ?_; clear hE a; intro a hE
  refine s_assign hE rfl rfl ?_; clear hE a; intro a hE
  refine s_assign hE rfl rfl ?_; clear hE a; intro a hE
  refine q_nil ?_
  replace hE : Env a 175 [(0, _), (1, _), (3, _)] := hE.sel [0, 1, 3] rfl
  refine hK3 _ _ ?_
  refine wp_seq_k (fun K4 hK4 => ?_)
  refine wp_plain [true, false, true, true, true, true, true] rfl rfl ?_
  refine s_buildS [[.int .u64 4611686018427387905]] hE rfl zero67 rfl fpl67 (by simp [PartsOk, Value.cells, *]) rfl ?_; clear hE a; intro a hE
  replace hE := hE.cast 30 rfl (show _ = Value.agg ([[.int .u64 4611686018427387905], bv (List.replicate 32 (0 : UInt8)), bv (List.replicate 32 (0 : UInt8)), bv (List.replicate 32 (0 : UInt8)), [.int .i64 0], [.int .i64 0]] : List (List Value)).flatten.toArray from (by first | rfl | simp [setAll]))
  refine s_call hE rfl Try.call26 (put_a 4611686018427387905 (List.replicate 32 (0 : UInt8)) (List.replicate 32 (0 : UInt8)) (List.replicate 32 (0 : UInt8)) 0 0 _ (by first | (simp; done) | (simp [*]; done) | (simp; omega)) (by first | (simp; done) | (simp [*]; done) | (simp; omega)) (by first | (simp; done) | (simp [*]; done) | (simp; omega))) rfl ?_
  rintro e w3 ⟨v31, rfl, hN⟩
  refine ⟨_, rfl, trivial, ?_⟩; clear hE a; intro a hE
  replace hM : Mem _ _ w3 [_, _] := hM.call0 hN ⟨rfl, trivial⟩; clear hN
  refine s_move hE rfl rfl ?_; clear hE a; intro a hE
  refine s_extract hE rfl rfl rfl ?_; clear hE a; intro a hE
  refine s_extract hE rfl rfl rfl ?_; clear hE a; intro a hE
  refine s_assign hE rfl rfl ?_; clear hE a; intro a hE
  refine s_assign hE rfl rfl ?_; clear hE a; intro a hE
  refine q_nil ?_
  replace hE : Env a 175 [(0, _), (1, _), (3, _), (5, _)] := hE.sel [0, 1, 3, 5] rfl
  refine hK4 _ _ ?_
  refine wp_seq_k (fun K5 hK5 => ?_)
  refine wp_plain [true, false, false] rfl rfl ?_
  refine s_buildS [[.int .i64 3], [.int .i64 258]] hE rfl zero84 rfl fpl84 (by simp [PartsOk, Value.cells, *]) rfl ?_; clear hE a; intro a hE
  replace hE := hE.cast 34 rfl (show _ = Value.agg ([[.int .i64 3], [.int .i64 258], bv (List.replicate 64 (0 : UInt8))] : List (List Value)).flatten.toArray from (by first | rfl | simp [setAll]))
  refine s_alloc [1, 1, 64] hE hM zero84 rfl rfl ?_; clear hE a; intro a b6 w4 hE hM'
  clear hM; have hM := hM'; clear hM'
  refine s_storeSegs 0 3 (vss := [[.int .i64 3], [.int .i64 258], bv (List.replicate 64 (0 : UInt8))]) hE rfl rfl hM rfl sz84 (by have hl_s2 : (List.replicate 64 (0 : UInt8)).length = 64 := (by first | (simp; done) | (simp [*]; done) | (simp; omega));  simp only [List.map_cons, List.map_nil, bv_length, List.length_cons, List.length_nil, List.take_succ_cons, List.take_zero, List.drop_zero, List.drop_succ_cons, hl_s2]) (by decide) rfl (one_fl ⟨one1 rfl, one1 rfl, bv_one _, trivial⟩) rfl (by intro X h; cases h) ?_; intro w5 hM'; clear hM; have hM := hM'; clear hM'
  simp only [List.take_zero, List.take_succ_cons, List.drop_zero, List.drop_succ_cons, List.take_nil, List.drop_nil, List.nil_append, List.append_nil, List.cons_append] at hM
  refine q_nil ?_
  replace hE : Env a 175 [(0, _), (1, _), (3, _), (5, _), (6, _)] := hE.sel [0, 1, 3, 5, 6] rfl
  refine hK5 _ _ ?_
  refine wp_seq_k (fun K6 hK6 => ?_)
  refine wp_plain [true, false, false, true, true, true, true, true] rfl rfl ?_
  refine s_loadN hE rfl (hM.get 0 rfl) row84 rfl (by intro X h; cases h) rfl ?_; clear hE a; intro a hE
  replace hE := hE.cast 36 rfl (show _ = Value.agg ([[.int .i64 3], [.int .i64 258], bv (List.replicate 64 (0 : UInt8))] : List (List Value)).flatten.toArray from (by first | rfl | simp))
  have hro37_0 : OkWr (3, 258, List.replicate 64 (0 : UInt8)) := ⟨(by first | (simp; done) | (simp [*]; done) | (simp; omega)), by unfold In64; simp only; omega, by unfold In64; simp only; omega⟩
  refine s_buildSlice (xs := [.tmp 36]) (([(3, 258, List.replicate 64 (0 : UInt8))] : List Wr).flatMap wcl) hE hM sl77 rfl rfl rfl (by intro v hv; simp only [List.mem_cons, List.not_mem_nil, or_false] at hv; rcases hv with rfl; exact wcl_len hro37_0.1) (by simp [Value.cells, wcl]) rfl rfl rfl ?_; clear hE a; intro a v37 w6 hE hM'
  clear hM; have hM := hM'; clear hM'
  replace hM := hM.ownEq (m' := ([(3, 258, List.replicate 64 (0 : UInt8))] : List Wr).length) (cs' := ([(3, 258, List.replicate 64 (0 : UInt8))] : List Wr).flatMap wcl) rfl rfl
  obtain ⟨cq1, hq1⟩ := own_rd (hM.get 0 rfl)
  refine s_call hE rfl Try.call31 (putwrites_c _ ([(3, 258, List.replicate 64 (0 : UInt8))] : List Wr) _ _ hq1 (ok_one hro37_0)) rfl ?_
  rintro e w7 ⟨v38_0, rfl, hN⟩
  refine ⟨_, rfl, trivial, ?_⟩; clear hE a; intro a hE
  replace hM : Mem _ _ w7 [_, _, _, _, _] := hM.call0 hN ⟨rfl, trivial⟩; clear hN
  refine s_move hE rfl rfl ?_; clear hE a; intro a hE
  refine s_extract hE rfl rfl rfl ?_; clear hE a; intro a hE
  refine s_extract hE rfl rfl rfl ?_; clear hE a; intro a hE
  refine s_assign hE rfl rfl ?_; clear hE a; intro a hE
  refine s_assign hE rfl rfl ?_; clear hE a; intro a hE
  refine q_nil ?_
  replace hE : Env a 175 [(0, _), (1, _), (3, _), (5, _), (6, _), (7, _), (8, _)] := hE.sel [0, 1, 3, 5, 6, 7, 8] rfl
  refine hK6 _ _ ?_
  refine wp_seq_k (fun K7 hK7 => ?_)
  refine wp_plain [true, false, true, true, true, true, true] rfl rfl ?_
  refine s_move hE rfl rfl ?_; clear hE a; intro a hE
  obtain ⟨cq2, hq2⟩ := own_rd (hM.get 0 rfl)
  refine s_call hE rfl Try.call34 (pget_a _ (putW ([(3, 258, List.replicate 64 (0 : UInt8))] : List Wr)) _ 1 _ hq2) rfl ?_
  rintro e w8 ⟨v43, rfl, hN⟩
  refine ⟨_, rfl, trivial, ?_⟩; clear hE a; intro a hE
  replace hM : Mem _ _ w8 [_, _, _, _, _, _] := hM.call0 hN ⟨rfl, trivial⟩; clear hN
  replace hM := Mem.ownRowsEq (f := wcl) (ls := gwL (putW ([(3, 258, List.replicate 64 (0 : UInt8))] : List Wr)) 1) (ms := [((3 : Int), (258 : Int), List.replicate 64 (0 : UInt8))]) hM (by decide +kernel)
  refine s_move hE rfl rfl ?_; clear hE a; intro a hE
  refine s_extract hE rfl rfl rfl ?_; clear hE a; intro a hE
  refine s_extract hE rfl rfl rfl ?_; clear hE a; intro a hE
  refine s_assign hE rfl rfl ?_; clear hE a; intro a hE
  refine s_assign hE rfl rfl ?_; clear hE a; intro a hE
  refine q_nil ?_
  replace hE : Env a 175 [(0, _), (1, _), (3, _), (5, _), (6, _), (7, _), (8, _), (9, _), (10, _)] := hE.sel [0, 1, 3, 5, 6, 7, 8, 9, 10] rfl
  refine hK7 _ _ ?_
  refine wp_seq_k (fun K8 hK8 => ?_)
  refine wp_plain [true, false, true, true, true, true, true] rfl rfl ?_
  refine s_move hE rfl rfl ?_; clear hE a; intro a hE
  obtain ⟨cq3, hq3⟩ := own_rd (hM.get 1 rfl)
  refine s_call hE rfl Try.call34 (pget_a _ (putW ([(3, 258, List.replicate 64 (0 : UInt8))] : List Wr)) _ 2 _ hq3) rfl ?_
  rintro e w9 ⟨v48, rfl, hN⟩
  refine ⟨_, rfl, trivial, ?_⟩; clear hE a; intro a hE
  replace hM : Mem _ _ w9 [_, _, _, _, _, _, _] := hM.call0 hN ⟨rfl, trivial⟩; clear hN
  refine s_move hE rfl rfl ?_; clear hE a; intro a hE
  refine s_extract hE rfl rfl rfl ?_; clear hE a; intro a hE
  refine s_extract hE rfl rfl rfl ?_; clear hE a; intro a hE
  refine s_assign hE rfl rfl ?_; clear hE a; intro a hE
  refine s_assign hE rfl rfl ?_; clear hE a; intro a hE
  refine q_nil ?_
  replace hE : Env a 175 [(0, _), (1, _), (3, _), (5, _), (6, _), (7, _), (8, _), (9, _), (10, _), (12, _)] := hE.sel [0, 1, 3, 5, 6, 7, 8, 9, 10, 12] rfl
  refine hK8 _ _ ?_
  refine wp_seq_k (fun K9 hK9 => ?_)
  refine wp_plain [true, false, true, true, true, true, true] rfl rfl ?_
  refine s_move hE rfl rfl ?_; clear hE a; intro a hE
  obtain ⟨cq4, hq4⟩ := own_rd (hM.get 2 rfl)
  refine s_call hE rfl Try.call34 (pget_a _ (putW ([(3, 258, List.replicate 64 (0 : UInt8))] : List Wr)) _ (-1) _ hq4) rfl ?_
  rintro e w10 ⟨v53, rfl, hN⟩
  refine ⟨_, rfl, trivial, ?_⟩; clear hE a; intro a hE
  replace hM : Mem _ _ w10 [_, _, _, _, _, _, _, _] := hM.call0 hN ⟨rfl, trivial⟩; clear hN
  refine s_move hE rfl rfl ?_; clear hE a; intro a hE
  refine s_extract hE rfl rfl rfl ?_; clear hE a; intro a hE
  refine s_extract hE rfl rfl rfl ?_; clear hE a; intro a hE
  refine s_assign hE rfl rfl ?_; clear hE a; intro a hE
  refine s_assign hE rfl rfl ?_; clear hE a; intro a hE
  refine q_nil ?_
  replace hE : Env a 175 [(0, _), (1, _), (3, _), (5, _), (6, _), (7, _), (8, _), (9, _), (10, _), (12, _), (14, _)] := hE.sel [0, 1, 3, 5, 6, 7, 8, 9, 10, 12, 14] rfl
  refine hK9 _ _ ?_
  refine wp_seq_k (fun K10 hK10 => ?_)
  refine wp_plain [false, true, true, true, true, true] rfl rfl ?_
  refine s_call hE rfl Try.call34 (pget_a _ [] _ 0 _ (rd_nil _)) rfl ?_
  rintro e w11 ⟨v57, rfl, hN⟩
  refine ⟨_, rfl, trivial, ?_⟩; clear hE a; intro a hE
  replace hM : Mem _ _ w11 [_, _, _, _, _, _, _, _, _] := hM.call0 hN ⟨rfl, trivial⟩; clear hN
  refine s_move hE rfl rfl ?_; clear hE a; intro a hE
  refine s_extract hE rfl rfl rfl ?_; clear hE a; intro a hE
  refine s_extract hE rfl rfl rfl ?_; clear hE a; intro a hE
  refine s_assign hE rfl rfl ?_; clear hE a; intro a hE
  refine s_assign hE rfl rfl ?_; clear hE a; intro a hE
  refine q_nil ?_
  replace hE : Env a 175 [(0, _), (1, _), (3, _), (5, _), (6, _), (7, _), (8, _), (9, _), (10, _), (12, _), (14, _), (15, _), (16, _)] := hE.sel [0, 1, 3, 5, 6, 7, 8, 9, 10, 12, 14, 15, 16] rfl
  refine hK10 _ _ ?_
  refine wp_seq_k (fun K11 hK11 => ?_)
  refine wp_plain [true, false, false, true, true, true, true, true] rfl rfl ?_
  refine s_buildS [[.int .i64 2]] hE rfl zero84 rfl fpl84 (by simp [PartsOk, Value.cells, *]) rfl ?_; clear hE a; intro a hE
  replace hE := hE.cast 61 rfl (show _ = Value.agg ([[.int .i64 2], [.int .i64 0], bv (List.replicate 64 (0 : UInt8))] : List (List Value)).flatten.toArray from (by first | rfl | simp [setAll]))
  have hro62_0 : OkWr (2, 0, List.replicate 64 (0 : UInt8)) := ⟨(by first | (simp; done) | (simp [*]; done) | (simp; omega)), by unfold In64; simp only; omega, by unfold In64; simp only; omega⟩
  refine s_buildSlice (xs := [.tmp 61]) (([(2, 0, List.replicate 64 (0 : UInt8))] : List Wr).flatMap wcl) hE hM sl77 rfl rfl rfl (by intro v hv; simp only [List.mem_cons, List.not_mem_nil, or_false] at hv; rcases hv with rfl; exact wcl_len hro62_0.1) (by simp [Value.cells, wcl]) rfl rfl rfl ?_; clear hE a; intro a v62 w12 hE hM'
  clear hM; have hM := hM'; clear hM'
  replace hM := hM.ownEq (m' := ([(2, 0, List.replicate 64 (0 : UInt8))] : List Wr).length) (cs' := ([(2, 0, List.replicate 64 (0 : UInt8))] : List Wr).flatMap wcl) rfl rfl
  obtain ⟨cq5, hq5⟩ := own_rd (hM.get 0 rfl)
  refine s_call hE rfl Try.call31 (putwrites_c _ ([(2, 0, List.replicate 64 (0 : UInt8))] : List Wr) _ _ hq5 (ok_one hro62_0)) rfl ?_
  rintro e w13 ⟨v63_0, rfl, hN⟩
  refine ⟨_, rfl, trivial, ?_⟩; clear hE a; intro a hE
  replace hM : Mem _ _ w13 [_, _, _, _, _, _, _, _, _, _, _] := hM.call0 hN ⟨rfl, trivial⟩; clear hN
  refine s_move hE rfl rfl ?_; clear hE a; intro a hE
  refine s_extract hE rfl rfl rfl ?_; clear hE a; intro a hE
  refine s_extract hE rfl rfl rfl ?_; clear hE a; intro a hE
  refine s_assign hE rfl rfl ?_; clear hE a; intro a hE
  refine s_assign hE rfl rfl ?_; clear hE a; intro a hE
  refine q_nil ?_
  replace hE : Env a 175 [(0, _), (1, _), (3, _), (5, _), (6, _), (7, _), (8, _), (9, _), (10, _), (12, _), (14, _), (15, _), (16, _), (18, _)] := hE.sel [0, 1, 3, 5, 6, 7, 8, 9, 10, 12, 14, 15, 16, 18] rfl
  refine hK11 _ _ ?_
  refine wp_seq_k (fun K12 hK12 => ?_)
  refine wp_plain [true, false, false, true, true, true, true, true] rfl rfl ?_
  refine s_buildS [[.int .i64 1], [.int .i64 (-1)]] hE rfl zero84 rfl fpl84 (by simp [PartsOk, Value.cells, *]) rfl ?_; clear hE a; intro a hE
  replace hE := hE.cast 67 rfl (show _ = Value.agg ([[.int .i64 1], [.int .i64 (-1)], bv (List.replicate 64 (0 : UInt8))] : List (List Value)).flatten.toArray from (by first | rfl | simp [setAll]))
  have hro68_0 : OkWr (1, (-1), List.replicate 64 (0 : UInt8)) := ⟨(by first | (simp; done) | (simp [*]; done) | (simp; omega)), by unfold In64; simp only; omega, by unfold In64; simp only; omega⟩
  refine s_buildSlice (xs := [.tmp 67]) (([(1, (-1), List.replicate 64 (0 : UInt8))] : List Wr).flatMap wcl) hE hM sl77 rfl rfl rfl (by intro v hv; simp only [List.mem_cons, List.not_mem_nil, or_false] at hv; rcases hv with rfl; exact wcl_len hro68_0.1) (by simp [Value.cells, wcl]) rfl rfl rfl ?_; clear hE a; intro a v68 w14 hE hM'
  clear hM; have hM := hM'; clear hM'
  replace hM := hM.ownEq (m' := ([(1, (-1), List.replicate 64 (0 : UInt8))] : List Wr).length) (cs' := ([(1, (-1), List.replicate 64 (0 : UInt8))] : List Wr).flatMap wcl) rfl rfl
  obtain ⟨cq6, hq6⟩ := own_rd (hM.get 0 rfl)
  refine s_call hE rfl Try.call31 (putwrites_c _ ([(1, (-1), List.replicate 64 (0 : UInt8))] : List Wr) _ _ hq6 (ok_one hro68_0)) rfl ?_
  rintro e w15 ⟨v69_0, rfl, hN⟩
  refine ⟨_, rfl, trivial, ?_⟩; clear hE a; intro a hE
  replace hM : Mem _ _ w15 [_, _, _, _, _, _, _, _, _, _, _, _, _] := hM.call0 hN ⟨rfl, trivial⟩; clear hN
  refine s_move hE rfl rfl ?_; clear hE a; intro a hE
  refine s_extract hE rfl rfl rfl ?_; clear hE a; intro a hE
  refine s_extract hE rfl rfl rfl ?_; clear hE a; intro a hE
  refine s_assign hE rfl rfl ?_; clear hE a; intro a hE
  refine s_assign hE rfl rfl ?_; clear hE a; intro a hE
  refine q_nil ?_
  replace hE : Env a 175 [(0, _), (1, _), (3, _), (5, _), (6, _), (7, _), (8, _), (9, _), (10, _), (12, _), (14, _), (15, _), (16, _), (18, _), (20, _)] := hE.sel [0, 1, 3, 5, 6, 7, 8, 9, 10, 12, 14, 15, 16, 18, 20] rfl
  refine hK12 _ _ ?_
  refine wp_seq_k (fun K13 hK13 => ?_)
  refine wp_plain [false, false, true, true, true, true, true] rfl rfl ?_
  refine s_makeSlice (m := 65537) (zc := wcl wr0) hE rfl rfl hM sl77 ⟨.agg ([[.int .i64 0], [.int .i64 0], bv (List.replicate 64 0)] : List (List Value)).flatten.toArray, by kernel_rfl, rfl⟩ rfl rfl (by decide) (by decide) (by decide) rfl ?_; clear hE a; intro a v73 w16 hE hM'; clear hM; have hM := hM'; clear hM'
  replace hM := hM.ownEq (m' := (List.replicate 65537 wr0).length) (cs' := (List.replicate 65537 wr0).flatMap wcl) List.length_replicate.symm (rep_flat rfl)
  obtain ⟨cq7, hq7⟩ := own_rd (hM.get 0 rfl)
  refine s_call hE rfl Try.call31 (putwrites_c _ (List.replicate 65537 wr0) _ _ hq7 (ok_rep wr0_ok)) rfl ?_
  rintro e w17 ⟨v74_0, rfl, hN⟩
  refine ⟨_, rfl, trivial, ?_⟩; clear hE a; intro a hE
  replace hM : Mem _ _ w17 [_, _, _, _, _, _, _, _, _, _, _, _, _, _, _] := hM.call0 hN ⟨rfl, trivial⟩; clear hN
  refine s_move hE rfl rfl ?_; clear hE a; intro a hE
  refine s_extract hE rfl rfl rfl ?_; clear hE a; intro a hE
  refine s_extract hE rfl rfl rfl ?_; clear hE a; intro a hE
  refine s_assign hE rfl rfl ?_; clear hE a; intro a hE
  refine s_assign hE rfl rfl ?_; clear hE a; intro a hE
  refine q_nil ?_
  replace hE : Env a 175 [(0, _), (1, _), (3, _), (5, _), (6, _), (7, _), (8, _), (9, _), (10, _), (12, _), (14, _), (15, _), (16, _), (18, _), (20, _), (22, _)] := hE.sel [0, 1, 3, 5, 6, 7, 8, 9, 10, 12, 14, 15, 16, 18, 20, 22] rfl
  refine hK13 _ _ ?_
  refine wp_seq_k (fun K14 hK14 => ?_)
  refine wp_seq_k (fun K15 hK15 => ?_)
  refine wp_drawnM hM (by kernel_rfl) (fun _ => False) [(0, false), (1, true), (2, true), (3, true), (4, true), (5, false), (6, true), (7, true), (8, true), (9, true), (10, true), (11, true), (12, false), (13, true), (14, true), (15, true), (16, false), (17, true), (18, true), (19, true), (20, true), (21, true), (22, true), (23, false), (24, true), (25, true), (26, true), (27, true), (28, true), (29, true), (30, true), (31, true), (32, true), (33, false), (34, true), (35, true)] [(0, [(1, 0), (2, 0), (3, 2), (4, 2), (5, 2), (6, 2), (7, 2), (8, 5), (9, 8), (10, 8), (11, 8), (12, 8), (13, 8), (14, 8), (15, 12), (16, 15), (17, 16), (18, 17), (19, 16), (20, 19), (21, 19), (22, 19), (23, 19), (24, 19), (25, 24), (26, 25), (27, 26), (28, 26), (29, 26), (30, 26), (31, 26), (32, 26), (33, 32), (34, 33), (35, 26)]), (5, [(6, 5), (7, 6), (8, 5), (9, 8), (10, 8), (11, 8), (12, 8), (13, 8), (14, 8), (15, 12), (16, 15), (17, 16), (18, 17), (19, 16), (20, 19), (21, 19), (22, 19), (23, 19), (24, 19), (25, 24), (26, 25), (27, 26), (28, 26), (29, 26), (30, 26), (31, 26), (32, 26), (33, 32), (34, 33), (35, 26)]), (12, [(13, 12), (14, 13), (15, 12), (16, 15), (17, 16), (18, 17), (19, 16), (20, 19), (21, 19), (22, 19), (23, 19), (24, 19), (25, 24), (26, 25), (27, 26), (28, 26), (29, 26), (30, 26), (31, 26), (32, 26), (33, 32), (34, 33), (35, 26)]), (16, [(17, 16), (18, 17), (19, 16), (20, 19), (21, 19), (22, 19), (23, 19), (24, 19), (25, 24), (26, 25), (27, 26), (28, 26), (29, 26), (30, 26), (31, 26), (32, 26), (33, 32), (34, 33), (35, 26)]), (23, [(24, 23), (25, 24), (26, 23), (27, 26), (28, 26), (29, 26), (30, 26), (31, 26), (32, 26), (33, 32), (34, 33), (35, 26)]), (33, [(34, 33), (35, 34)])] (by kernel_rfl) rfl ?_
  intro w18 hM' hww18; clear hM; have hM := hM'; clear hM'
  refine s_call hE rfl Try.call30 (awake21_c  _ ) rfl ?_
  rintro e w19 ⟨rfl, hN⟩
  refine ⟨_, rfl, hN.sta0 _, ?_⟩; clear hE a; intro a hE
  replace hM : Mem _ _ w19 [_, _, _, _, _, _, _, _, _, _, _, _, _, _, _] := hM.call0 hN trivial; clear hN
  refine s_not hE rfl rfl ?_; clear hE a; intro a hE
  replace hE := hE.cast 78 rfl (show _ = Value.bool false from rfl)
  refine s_move hE rfl rfl ?_; clear hE a; intro a hE
  refine g_yes hE rfl rfl ?_
  refine s_move hE rfl rfl ?_; clear hE a; intro a hE
  refine g_yes hE rfl rfl ?_
  refine s_sliceStr (s := str givenL) (l := 0) (h := 127) hE rfl Try.underlying9 rfl ⟨_, rfl⟩ (by have hl_ : givenL.length = 128 := givenL_len; first | omega | decide) (by rw [str_size]; have hl_ : givenL.length = 128 := givenL_len; first | omega | (simp; omega)) rfl ?_; clear hE a; intro a hE
  replace hE := hE.cast 81 rfl (show _ = Value.string (str (givenL.take 127)) from congrArg Value.string str_take)
  refine g_yes hE rfl rfl ?_
  refine s_call hE rfl Try.call37 (no21_c (str (givenL.take 127)) _ (by decide +kernel) (by decide +kernel)) rfl ?_
  rintro e w20 ⟨rfl, hN⟩
  refine ⟨_, rfl, hN.sta0 _, ?_⟩; clear hE a; intro a hE
  replace hM : Mem _ _ w20 [_, _, _, _, _, _, _, _, _, _, _, _, _, _, _] := hM.call0 hN trivial; clear hN
  refine g_yes hE rfl rfl ?_
  refine s_not hE rfl rfl ?_; clear hE a; intro a hE
  replace hE := hE.cast 83 rfl (show _ = Value.bool false from rfl)
  refine s_pickf hE rfl rfl rfl ?_; clear hE a; intro a hE
  refine s_move hE rfl rfl ?_; clear hE a; intro a hE
  refine g_yes hE rfl rfl ?_
  refine s_move hE rfl rfl ?_; clear hE a; intro a hE
  refine g_yes hE rfl rfl ?_
  refine s_sliceStr (s := str givenL) (l := 0) (h := 127) hE rfl Try.underlying9 rfl ⟨_, rfl⟩ (by have hl_ : givenL.length = 128 := givenL_len; first | omega | decide) (by rw [str_size]; have hl_ : givenL.length = 128 := givenL_len; first | omega | (simp; omega)) rfl ?_; clear hE a; intro a hE
  replace hE := hE.cast 87 rfl (show _ = Value.string (str (givenL.take 127)) from congrArg Value.string str_take)
  refine g_yes hE rfl rfl ?_
  refine s_bin hE rfl rfl (show Bin _ _ _ (.string (str (givenL.take 127))) (.string (str [1])) (.string (str ((givenL.take 127) ++ [1]))) from bin_strs (by have hl_x : (givenL.take 127).length = 127 := (by have hl_q : givenL.length = 128 := givenL_len; simp; try omega); first | omega | (simp; done) | (simp; omega))) rfl ?_; clear hE a; intro a hE
  refine g_yes hE rfl rfl ?_
  refine s_call hE rfl Try.call37 (no21_c (str ((givenL.take 127) ++ [1])) _ (by decide +kernel) (by decide +kernel)) rfl ?_
  rintro e w21 ⟨rfl, hN⟩
  refine ⟨_, rfl, hN.sta0 _, ?_⟩; clear hE a; intro a hE
  replace hM : Mem _ _ w21 [_, _, _, _, _, _, _, _, _, _, _, _, _, _, _] := hM.call0 hN trivial; clear hN
  refine g_yes hE rfl rfl ?_
  refine s_not hE rfl rfl ?_; clear hE a; intro a hE
  replace hE := hE.cast 90 rfl (show _ = Value.bool false from rfl)
  refine s_pickf hE rfl rfl rfl ?_; clear hE a; intro a hE
  refine s_move hE rfl rfl ?_; clear hE a; intro a hE
  refine g_yes hE rfl rfl ?_
  refine s_call hE rfl Try.call37 (no21_c (str []) _ (by decide +kernel) (by decide +kernel)) rfl ?_
  rintro e w22 ⟨rfl, hN⟩
  refine ⟨_, rfl, hN.sta0 _, ?_⟩; clear hE a; intro a hE
  replace hM : Mem _ _ w22 [_, _, _, _, _, _, _, _, _, _, _, _, _, _, _] := hM.call0 hN trivial; clear hN
  refine g_yes hE rfl rfl ?_
  refine s_not hE rfl rfl ?_; clear hE a; intro a hE
  replace hE := hE.cast 94 rfl (show _ = Value.bool false from rfl)
  refine s_pickf hE rfl rfl rfl ?_; clear hE a; intro a hE
  refine s_move hE rfl rfl ?_; clear hE a; intro a hE
  refine g_yes hE rfl rfl ?_
  refine s_move hE rfl rfl ?_; clear hE a; intro a hE
  refine g_yes hE rfl rfl ?_
  refine s_sliceStr (s := str givenL) (l := 1) (h := (str givenL).size) hE rfl Try.underlying9 ⟨_, rfl⟩ rfl (by rw [str_size]; have hl_ : givenL.length = 128 := givenL_len; first | omega | (simp; omega)) (Nat.le_refl _) rfl ?_; clear hE a; intro a hE
  replace hE := hE.cast 98 rfl (show _ = Value.string (str (givenL.drop 1)) from congrArg Value.string str_drop)
  refine g_yes hE rfl rfl ?_
  refine s_bin hE rfl rfl (show Bin _ _ _ (.string (str [100])) (.string (str (givenL.drop 1))) (.string (str ([100] ++ (givenL.drop 1)))) from bin_strs (by have hl_y : (givenL.drop 1).length = 127 := (by have hl_q : givenL.length = 128 := givenL_len; simp; try omega); first | omega | (simp; done) | (simp; omega))) rfl ?_; clear hE a; intro a hE
  refine g_yes hE rfl rfl ?_
  refine s_call hE rfl Try.call37 (no21_c (str ([100] ++ (givenL.drop 1))) _ (by decide +kernel) (by decide +kernel)) rfl ?_
  rintro e w23 ⟨rfl, hN⟩
  refine ⟨_, rfl, hN.sta0 _, ?_⟩; clear hE a; intro a hE
  replace hM : Mem _ _ w23 [_, _, _, _, _, _, _, _, _, _, _, _, _, _, _] := hM.call0 hN trivial; clear hN
  refine g_yes hE rfl rfl ?_
  refine s_not hE rfl rfl ?_; clear hE a; intro a hE
  replace hE := hE.cast 101 rfl (show _ = Value.bool false from rfl)
  refine s_pickf hE rfl rfl rfl ?_; clear hE a; intro a hE
  refine s_move hE rfl rfl ?_; clear hE a; intro a hE
  refine g_yes hE rfl rfl ?_
  refine s_move hE rfl rfl ?_; clear hE a; intro a hE
  refine g_yes hE rfl rfl ?_
  refine s_sliceStr (s := str givenL) (l := 0) (h := 112) hE rfl Try.underlying9 rfl ⟨_, rfl⟩ (by have hl_ : givenL.length = 128 := givenL_len; first | omega | decide) (by rw [str_size]; have hl_ : givenL.length = 128 := givenL_len; first | omega | (simp; omega)) rfl ?_; clear hE a; intro a hE
  replace hE := hE.cast 105 rfl (show _ = Value.string (str (givenL.take 112)) from congrArg Value.string str_take)
  refine g_yes hE rfl rfl ?_
  refine s_bin hE rfl rfl (show Bin _ _ _ (.string (str (givenL.take 112))) (.string (str [128])) (.string (str ((givenL.take 112) ++ [128]))) from bin_strs (by have hl_x : (givenL.take 112).length = 112 := (by have hl_q : givenL.length = 128 := givenL_len; simp; try omega); first | omega | (simp; done) | (simp; omega))) rfl ?_; clear hE a; intro a hE
  refine g_yes hE rfl rfl ?_
  refine s_move hE rfl rfl ?_; clear hE a; intro a hE
  refine g_yes hE rfl rfl ?_
  refine s_sliceStr (s := str givenL) (l := 113) (h := (str givenL).size) hE rfl Try.underlying9 ⟨_, rfl⟩ rfl (by rw [str_size]; have hl_ : givenL.length = 128 := givenL_len; first | omega | (simp; omega)) (Nat.le_refl _) rfl ?_; clear hE a; intro a hE
  replace hE := hE.cast 108 rfl (show _ = Value.string (str (givenL.drop 113)) from congrArg Value.string str_drop)
  refine g_yes hE rfl rfl ?_
  refine s_bin hE rfl rfl (show Bin _ _ _ (.string (str ((givenL.take 112) ++ [128]))) (.string (str (givenL.drop 113))) (.string (str (((givenL.take 112) ++ [128]) ++ (givenL.drop 113)))) from bin_strs (by have hl_x : ((givenL.take 112) ++ [128]).length = 112 + ([128].length) := (by have hl_p : (givenL.take 112).length = 112 := (by have hl_q : givenL.length = 128 := givenL_len; simp; try omega); rw [List.length_append]; omega); have hl_y : (givenL.drop 113).length = 15 := (by have hl_q : givenL.length = 128 := givenL_len; simp; try omega); first | omega | (simp; done) | (simp; omega))) rfl ?_; clear hE a; intro a hE
  refine g_yes hE rfl rfl ?_
  refine s_call hE rfl Try.call37 (no21_c (str (((givenL.take 112) ++ [128]) ++ (givenL.drop 113))) _ (by decide +kernel) (by decide +kernel)) rfl ?_
  rintro e w24 ⟨rfl, hN⟩
  refine ⟨_, rfl, hN.sta0 _, ?_⟩; clear hE a; intro a hE
  replace hM : Mem _ _ w24 [_, _, _, _, _, _, _, _, _, _, _, _, _, _, _] := hM.call0 hN trivial; clear hN
  refine g_yes hE rfl rfl ?_
  refine s_not hE rfl rfl ?_; clear hE a; intro a hE
  replace hE := hE.cast 111 rfl (show _ = Value.bool false from rfl)
  refine s_pickf hE rfl rfl rfl ?_; clear hE a; intro a hE
  refine q_nil ?_
  replace hE : Env a 175 [(0, _), (3, _), (5, _), (6, _), (7, _), (8, _), (9, _), (10, _), (12, _), (14, _), (15, _), (16, _), (18, _), (20, _), (22, _), (112, _)] := hE.sel [0, 3, 5, 6, 7, 8, 9, 10, 12, 14, 15, 16, 18, 20, 22, 112] rfl
  refine hK15 _ _ ?_
  refine wp_cond_false (hE.eval rfl) ?_
  refine wp_skip ?_
  refine hK14 _ _ ?_
  refine wp_seq_k (fun K16 hK16 => ?_)
  refine wp_drawnM hM (by kernel_rfl) (fun _ => False) [(0, true), (1, true), (2, true), (3, true), (4, true), (5, true), (6, true), (7, true), (8, true), (9, false), (10, true), (11, true), (12, true), (13, true), (14, true), (15, true), (16, true), (17, true), (18, true), (19, true), (20, true), (21, true), (22, true), (23, true), (24, true), (25, true), (26, true), (27, true), (28, true), (29, true), (30, true), (31, true), (32, true), (33, true), (34, true), (35, true), (36, true), (37, true), (38, true), (39, true), (40, true), (41, true), (42, true), (43, true), (44, true), (45, true), (46, true), (47, true), (48, true), (49, true), (50, true), (51, true), (52, true), (53, true), (54, true), (55, true), (56, true), (57, true), (58, true), (59, true), (60, true), (61, true), (62, true)] [(9, [(10, 9), (11, 10), (12, 11), (13, 9), (14, 13), (15, 13), (16, 13), (17, 16), (18, 17), (19, 17), (20, 17), (21, 17), (22, 17), (23, 22), (24, 22), (25, 24), (26, 22), (27, 25), (28, 27), (29, 28), (30, 29), (31, 29), (32, 29), (33, 32), (34, 33), (35, 33), (36, 33), (37, 33), (38, 37), (39, 37), (40, 37), (41, 40), (42, 41), (43, 41), (44, 41), (45, 41), (46, 41), (47, 46), (48, 46), (49, 48), (50, 49), (51, 50), (52, 50), (53, 50), (54, 50), (55, 54), (56, 54), (57, 56), (58, 57), (59, 58), (60, 58), (61, 58), (62, 9)])] (by kernel_rfl) rfl ?_
  intro w25 hM' hww25; clear hM; have hM := hM'; clear hM'
  refine s_move hE rfl rfl ?_; clear hE a; intro a hE
  refine s_bin hE rfl rfl bin_eql rfl ?_; clear hE a; intro a hE
  refine s_move hE rfl rfl ?_; clear hE a; intro a hE
  replace hE := hE.cast 115 rfl (show _ = Value.bool true from (congrArg Value.bool (by first | (with_reducible exact decide_eq_true rfl) | decide +kernel | (simp; done))))
  refine g_yes hE rfl rfl ?_
  refine s_move hE rfl rfl ?_; clear hE a; intro a hE
  refine g_yes hE rfl rfl ?_
  refine s_bin hE rfl rfl bin_eql rfl ?_; clear hE a; intro a hE
  refine s_pickt hE rfl rfl rfl ?_; clear hE a; intro a hE
  refine s_move hE rfl rfl ?_; clear hE a; intro a hE
  replace hE := hE.cast 119 rfl (show _ = Value.bool true from (congrArg Value.bool (by first | (with_reducible exact decide_eq_true rfl) | decide +kernel | (simp; done))))
  refine g_yes hE rfl rfl ?_
  refine s_move hE rfl rfl ?_; clear hE a; intro a hE
  refine g_yes hE rfl rfl ?_
  obtain ⟨cs121, hs121⟩ := own_rd (hM.get 10 rfl)
  refine s_toStr hE rfl Try.underlying55 Try.underlying5 Try.underlying9 hs121 (by intro X h; cases h; simp) rfl ?_; clear hE a; intro a hE
  refine g_yes hE rfl rfl ?_
  refine s_call hE rfl Try.call38 (zeros_c 64 _ (by first | omega | assumption | (simp; done) | (simp; omega) | decide)) rfl ?_
  rintro e w26 ⟨rfl, hN⟩
  refine ⟨_, rfl, hN.sta0 _, ?_⟩; clear hE a; intro a hE
  replace hM : Mem _ _ w26 [_, _, _, _, _, _, _, _, _, _, _, _, _, _, _] := hM.call0 hN trivial; clear hN
  refine g_yes hE rfl rfl ?_
  refine s_bin hE rfl rfl (show Bin _ _ _ (.string (str [3, 0, 0, 1, 2])) (.string (str (List.replicate 64 (0 : UInt8)))) (.string (str ([3, 0, 0, 1, 2] ++ (List.replicate 64 (0 : UInt8))))) from bin_strs (by have hl_y : (List.replicate 64 (0 : UInt8)).length = 64 := (by simp); first | omega | (simp; done) | (simp; omega))) rfl ?_; clear hE a; intro a hE
  refine g_yes hE rfl rfl ?_
  refine s_bin hE rfl rfl bins_str.1 rfl ?_; clear hE a; intro a hE
  refine s_pickt hE rfl rfl rfl ?_; clear hE a; intro a hE
  refine s_move hE rfl rfl ?_; clear hE a; intro a hE
  replace hE := hE.cast 126 rfl (show _ = Value.bool true from (congrArg Value.bool (by first | (with_reducible exact decide_eq_true rfl) | decide +kernel | (simp; done))))
  refine g_yes hE rfl rfl ?_
  refine s_move hE rfl rfl ?_; clear hE a; intro a hE
  refine g_yes hE rfl rfl ?_
  refine s_bin hE rfl rfl bin_eql rfl ?_; clear hE a; intro a hE
  refine s_pickt hE rfl rfl rfl ?_; clear hE a; intro a hE
  refine s_move hE rfl rfl ?_; clear hE a; intro a hE
  replace hE := hE.cast 130 rfl (show _ = Value.bool true from (congrArg Value.bool (by first | (with_reducible exact decide_eq_true rfl) | decide +kernel | (simp; done))))
  refine g_yes hE rfl rfl ?_
  refine s_move hE rfl rfl ?_; clear hE a; intro a hE
  refine g_yes hE rfl rfl ?_
  refine s_len hE rfl Try.underlying77 (own_slice (hM.get 9 rfl)) rfl ?_; clear hE a; intro a hE
  refine g_yes hE rfl rfl ?_
  refine s_bin hE rfl rfl bin_eql rfl ?_; clear hE a; intro a hE
  refine s_pickt hE rfl rfl rfl ?_; clear hE a; intro a hE
  refine s_move hE rfl rfl ?_; clear hE a; intro a hE
  replace hE := hE.cast 135 rfl (show _ = Value.bool true from (congrArg Value.bool (by first | (with_reducible exact decide_eq_true rfl) | decide +kernel | (simp; done))))
  refine g_yes hE rfl rfl ?_
  refine s_move hE rfl rfl ?_; clear hE a; intro a hE
  refine g_yes hE rfl rfl ?_
  obtain ⟨cx137, hx137⟩ := own_rd (hM.get 9 rfl)
  refine s_indexRd (j := 0) hE rfl hx137 rfl slt77 (by first | rfl | omega) (by decide) rfl ?_; clear hE a; intro a p137 hE hc137 hp137
  have hlj137 : 0 < [((3 : Int), (258 : Int), List.replicate 64 (0 : UInt8))].length := (by decide)
  have hok137 := (ok_one hro37_0) _ (getD_mem (d := wr0) hlj137)
  rw [flat_elem (d := wr0) (fun x hx => wcl_len ((ok_one hro37_0 x hx)).1) hlj137] at hc137
  refine g_yes hE rfl rfl ?_
  refine s_loadAtN hE rfl hc137 (by rw [wcl_len hok137.1]; exact row84) (by intro X h; cases h; simp) rfl ?_; clear hE a; intro a hE
  replace hE := hE.cast 138 rfl (show _ = Value.agg ([[.int .i64 (([((3 : Int), (258 : Int), List.replicate 64 (0 : UInt8))].getD 0 wr0).1)], [.int .i64 (([((3 : Int), (258 : Int), List.replicate 64 (0 : UInt8))].getD 0 wr0).2.1)], bv (([((3 : Int), (258 : Int), List.replicate 64 (0 : UInt8))].getD 0 wr0).2.2)] : List (List Value)).flatten.toArray from rfl)
  refine g_yes hE rfl rfl ?_
  refine s_loadN hE rfl (hM.get 12 rfl) row84 rfl (by intro X h; cases h; simp) rfl ?_; clear hE a; intro a hE
  replace hE := hE.cast 139 rfl (show _ = Value.agg ([[.int .i64 3], [.int .i64 258], bv (List.replicate 64 (0 : UInt8))] : List (List Value)).flatten.toArray from (by first | rfl | simp))
  refine g_yes hE rfl rfl ?_
  refine s_bin hE rfl rfl ((eqk84 (b := decide (((([((3 : Int), (258 : Int), List.replicate 64 (0 : UInt8))].getD 0 wr0).1) : Int) = 3 ∧ ((([((3 : Int), (258 : Int), List.replicate 64 (0 : UInt8))].getD 0 wr0).2.1) : Int) = 258 ∧ (([((3 : Int), (258 : Int), List.replicate 64 (0 : UInt8))].getD 0 wr0).2.2) = (List.replicate 64 (0 : UInt8)))) (kl84 (k := 0) (x0 := (([((3 : Int), (258 : Int), List.replicate 64 (0 : UInt8))].getD 0 wr0).1)) (x1 := (([((3 : Int), (258 : Int), List.replicate 64 (0 : UInt8))].getD 0 wr0).2.1)) (x2 := ([((3 : Int), (258 : Int), List.replicate 64 (0 : UInt8))].getD 0 wr0).2.2) (wf_i64 hok137.2.1) (wf_i64 hok137.2.2) hok137.1) (kl84 (k := 0) (x0 := 3) (x1 := 258) (x2 := List.replicate 64 (0 : UInt8)) (by decide +kernel) (by decide +kernel) (by first | (simp; done) | (simp [*]; done) | (simp; omega))) (by rw [flat_eq (by have hl_x2 : (([((3 : Int), (258 : Int), List.replicate 64 (0 : UInt8))].getD 0 wr0).2.2).length = 64 := hok137.1; have hl_y2 : (List.replicate 64 (0 : UInt8)).length = 64 := (by first | (simp; done) | (simp [*]; done) | (simp; omega)); simp only [List.map_cons, List.map_nil, bv_length, List.length_cons, List.length_nil, hl_x2, hl_y2])]; simp [bv_iff, Int.ofNat_inj]; try omega)).1) rfl ?_; clear hE a; intro a hE
  refine s_pickt hE rfl rfl rfl ?_; clear hE a; intro a hE
  refine s_move hE rfl rfl ?_; clear hE a; intro a hE
  replace hE := hE.cast 142 rfl (show _ = Value.bool true from (congrArg Value.bool (by first | (with_reducible exact decide_eq_true rfl) | decide +kernel | (simp; done))))
  refine g_yes hE rfl rfl ?_
  refine s_move hE rfl rfl ?_; clear hE a; intro a hE
  refine g_yes hE rfl rfl ?_
  refine s_bin hE rfl rfl bin_eql rfl ?_; clear hE a; intro a hE
  refine s_pickt hE rfl rfl rfl ?_; clear hE a; intro a hE
  refine s_move hE rfl rfl ?_; clear hE a; intro a hE
  replace hE := hE.cast 146 rfl (show _ = Value.bool true from (congrArg Value.bool (by first | (with_reducible exact decide_eq_true rfl) | decide +kernel | (simp; done))))
  refine g_yes hE rfl rfl ?_
  refine s_move hE rfl rfl ?_; clear hE a; intro a hE
  refine g_yes hE rfl rfl ?_
  refine s_bin hE rfl rfl bin_eql rfl ?_; clear hE a; intro a hE
  refine s_pickt hE rfl rfl rfl ?_; clear hE a; intro a hE
  refine s_move hE rfl rfl ?_; clear hE a; intro a hE
  replace hE := hE.cast 150 rfl (show _ = Value.bool true from (congrArg Value.bool (by first | (with_reducible exact decide_eq_true rfl) | decide +kernel | (simp; done))))
  refine g_yes hE rfl rfl ?_
  refine s_move hE rfl rfl ?_; clear hE a; intro a hE
  refine g_yes hE rfl rfl ?_
  refine s_bin hE rfl rfl bin_eql rfl ?_; clear hE a; intro a hE
  refine s_pickt hE rfl rfl rfl ?_; clear hE a; intro a hE
  refine s_move hE rfl rfl ?_; clear hE a; intro a hE
  replace hE := hE.cast 154 rfl (show _ = Value.bool true from (congrArg Value.bool (by first | (with_reducible exact decide_eq_true rfl) | decide +kernel | (simp; done))))
  refine g_yes hE rfl rfl ?_
  refine s_move hE rfl rfl ?_; clear hE a; intro a hE
  refine g_yes hE rfl rfl ?_
  refine s_len hE rfl Try.underlying77 (own_slice (hM.get 6 rfl)) rfl ?_; clear hE a; intro a hE
  refine g_yes hE rfl rfl ?_
  refine s_bin hE rfl rfl bin_eql rfl ?_; clear hE a; intro a hE
  refine s_pickt hE rfl rfl rfl ?_; clear hE a; intro a hE
  refine s_move hE rfl rfl ?_; clear hE a; intro a hE
  replace hE := hE.cast 159 rfl (show _ = Value.bool true from (congrArg Value.bool (by first | (with_reducible exact decide_eq_true rfl) | decide +kernel | (simp; done))))
  refine g_yes hE rfl rfl ?_
  refine s_move hE rfl rfl ?_; clear hE a; intro a hE
  refine g_yes hE rfl rfl ?_
  refine s_bin hE rfl rfl bin_eql rfl ?_; clear hE a; intro a hE
  refine s_pickt hE rfl rfl rfl ?_; clear hE a; intro a hE
  refine s_move hE rfl rfl ?_; clear hE a; intro a hE
  replace hE := hE.cast 163 rfl (show _ = Value.bool true from (congrArg Value.bool (by first | (with_reducible exact decide_eq_true rfl) | decide +kernel | (simp; done))))
  refine g_yes hE rfl rfl ?_
  refine s_move hE rfl rfl ?_; clear hE a; intro a hE
  refine g_yes hE rfl rfl ?_
  refine s_bin hE rfl rfl bin_eql rfl ?_; clear hE a; intro a hE
  refine s_pickt hE rfl rfl rfl ?_; clear hE a; intro a hE
  refine s_move hE rfl rfl ?_; clear hE a; intro a hE
  replace hE := hE.cast 167 rfl (show _ = Value.bool true from (congrArg Value.bool (by first | (with_reducible exact decide_eq_true rfl) | decide +kernel | (simp; done))))
  refine g_yes hE rfl rfl ?_
  refine s_move hE rfl rfl ?_; clear hE a; intro a hE
  refine g_yes hE rfl rfl ?_
  refine s_bin hE rfl rfl bin_eql rfl ?_; clear hE a; intro a hE
  refine s_pickt hE rfl rfl rfl ?_; clear hE a; intro a hE
  refine s_move hE rfl rfl ?_; clear hE a; intro a hE
  replace hE := hE.cast 171 rfl (show _ = Value.bool true from (congrArg Value.bool (by first | (with_reducible exact decide_eq_true rfl) | decide +kernel | (simp; done))))
  refine g_yes hE rfl rfl ?_
  refine s_move hE rfl rfl ?_; clear hE a; intro a hE
  refine g_yes hE rfl rfl ?_
  refine s_bin hE rfl rfl bin_eql rfl ?_; clear hE a; intro a hE
  refine s_pickt hE rfl rfl rfl ?_; clear hE a; intro a hE
  refine s_assign hE rfl rfl ?_; clear hE a; intro a hE
  refine q_nil ?_
  replace hE : Env a 175 [(0, _), (6, _), (7, _), (112, _)] := hE.sel [0, 6, 7, 112] rfl
  refine hK16 _ _ ?_
  refine wp_ret ?_
  refine f_ret1 hE rfl rfl ?_
  exact ⟨(congrArg (fun b => Ending.returned (Value.bool b)) (by rw [(putW_long (ls := List.replicate 65537 wr0) (by rw [List.length_replicate]; omega)).2]; rfl)), hM.pick [] rfl⟩
set_option maxRecDepth 100000 in
theorem recordKnown_lifted (os : Os) (started : os.Started) (H : Type) (enc : TypeId × Value → H) :
    ReturnsInHanded {} Try.checked os 12 .any (Rows.recordKnownSpec.pre6 enc Try.prog Try.f12 Rows.recordKnownRow.domain false) (Rows.recordKnownSpec.post enc Try.prog Try.f12 false true false false) := by
  refine law_lifted (C := Try.checked) (fn := Try.f12) (by kernel_rfl) started (by kernel_rfl) Try.func12 rfl (fun ds hl => ?_) rfl Try.underlying4 (by kernel_rfl) (of_decide_eq_true (by kernel_rfl)) (ChangeSpec.witness6 (enc := enc) (C := Try.checked) false ⟨#[], #[], []⟩ 8 (by kernel_rfl) (by kernel_rfl) (by kernel_rfl) (by kernel_rfl)) ?_
  · rw [Try.params12] at hl
    match ds, hl with
    | [], _ => rfl
  · intro W base args ds ps hval hA hw
    rw [Try.params12] at hA hval hw
    obtain ⟨hargs, rfl, rfl⟩ := trodAll_nil hA
    obtain rfl : args = #[] := by cases args; simp_all
    exact recordKnown_c W

/-- The statement. -/
theorem recordKnown_holds : Rows.RecordKnownSaid :=
  OpenClaim.holds_of_wide 12 Try.f12 rfl rfl rfl rfl rfl rfl rfl ⟨rfl, rfl, rfl, rfl, rfl⟩ rfl rfl rfl rfl rfl (by kernel_rfl) Try.func12 (by kernel_rfl)
    (of_decide_eq_true (by kernel_rfl)) (by unfold Func.isWrapper; first | (rw [if_pos (by decide +kernel)]; kernel_rfl) | (rw [if_neg (by decide +kernel)]; exact ⟨rfl, rfl⟩))
    (fun os started H enc _ => recordKnown_lifted os started H enc)
#print axioms recordKnown_holds
end Go.Proofs.Ytlieojojahhmmaa
