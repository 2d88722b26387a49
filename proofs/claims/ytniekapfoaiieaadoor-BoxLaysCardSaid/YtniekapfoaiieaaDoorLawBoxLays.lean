/- BoxLays of casematelaw10 returns true for whatever box and bytes; they read behind the call as before. No condition. -/
import Derived.Test.YtniekapfoaiieaaDoorLg
import Derived.Test.YtniekapfoaiieaaDoorTie
import Derived.Test.YtniekapfoaiieaaDoorCards
set_option linter.unusedSimpArgs false
set_option linter.unusedVariables false
namespace Go.Proofs.YtniekapfoaiieaaDoor
open Go Go.Kx
open Go.ChangeShapes Go.WideShapes Go.ChangeAt Go.RowKit
theorem kl29 : ∀ {k : Nat} {x0 : List UInt8} {x1 : List UInt8} (hx0 : x0.length = 32) (hx1 : x1.length = 32), KL Tryd.prog (k + 3) 29 ([bv x0, bv x1].flatten) := fun {k} {x0} {x1} hx0 hx1 => KL.struct [32, 32] Tryd.underlying29 (by kernel_rfl) (by kernel_rfl) (by kernel_rfl) (by simp [*]) [23, 27] (by kernel_rfl) ⟨KL.arr8 Tryd.underlying23 Tryd.underlying5 (by kernel_rfl) (by kernel_rfl) hx0, KL.arr8 Tryd.underlying27 Tryd.underlying5 (by kernel_rfl) (by kernel_rfl) hx1, trivial⟩
theorem eqk29 : ∀ {cs ds : List Value} {b : Bool} {k k' : Nat}, KL Tryd.prog k 29 cs → KL Tryd.prog k' 29 ds → (b = true ↔ cs = ds) → Bin Tryd.prog .eql 29 (.agg cs.toArray) (.agg ds.toArray) (.bool b) ∧ Bin Tryd.prog .neq 29 (.agg cs.toArray) (.agg ds.toArray) (.bool (!b)) := fun h1 h2 hb => bins_key (m := 3) (by kernel_rfl) rfl (by kernel_rfl) (by rw [Tryd.underlying29]) h1 h2 hb
theorem boxLays_c (d : List UInt8) (t : List UInt8) (v : Value) (bs : List UInt8) (c : Nat) (w : World) (hG : (glb 1).holds w) (hT : tabP.holds w) (hl_d : d.length = 32) (hl_t : t.length = 32) (hr_bs : (rd v 1 bs.length c (bv bs)).holds w) : Calls Tryd.prog 5 #[.agg ([bv d, bv t] : List (List Value)).flatten.toArray, v] w fun e w' => e = .returned (.bool true) ∧ Mem w [] w' [] := by
  have hq5 : (bs.take (min bs.length 500)).length = min bs.length 500 := by rw [List.length_take]; omega
  have hM : Mem w [] w [rd v 1 bs.length c (bv bs), glb 1, tabP] := Mem.startR w (fun g hg => by
    simp only [List.mem_cons, List.not_mem_nil, or_false] at hg
    rcases hg with rfl | rfl | rfl
    · exact ⟨hr_bs, rfl⟩
    · exact ⟨hG, rfl⟩
    · exact ⟨hT, rfl⟩)
  refine f_enter 76 Tryd.func5 rfl rfl rfl ?_
  intro a hE
  replace hE : Env a 76 [(0, _), (1, _)] := hE
  refine wp_seq_k (fun K1 hK1 => ?_)
  refine wp_plain [false, true] rfl rfl ?_
  refine s_box (ss := [bv d, bv t]) [32, 32] hE hM rfl rfl (by simp [*]) rfl ?_; clear hE a; intro a b2 w1 hE hM'
  clear hM; have hM := hM'; clear hM'
  refine s_assign hE rfl rfl ?_; clear hE a; intro a hE
  refine q_nil ?_
  replace hE : Env a 76 [(1, _), (2, _), (4, _)] := hE.sel [1, 2, 4] rfl
  refine hK1 _ _ ?_
  refine wp_seq_k (fun K2 hK2 => ?_)
  refine wp_plain [true, true, true, true, true, true] rfl rfl ?_
  refine s_move hE rfl rfl ?_; clear hE a; intro a hE
  refine s_move hE rfl rfl ?_; clear hE a; intro a hE
  refine s_len hE rfl Tryd.underlying42 (rd_slice (hM.get 1 rfl)) rfl ?_; clear hE a; intro a hE
  refine s_min hE rfl rfl rfl ?_; clear hE a; intro a hE
  replace hE := hE.cast 16 rfl (show _ = Value.int .i64 ((min bs.length 500 : Nat) : Int) from congrArg (Value.int .i64) (by split <;> omega))
  have hcap17 := rd_len (hM.get 1 rfl)
  refine s_slice (l := 0) (h := min bs.length 500) (mx' := c) hE rfl (hM.get 1 rfl) slt42 rfl ⟨_, rfl⟩ rfl (by simp) (by first | omega | assumption | (simp; done) | (simp; omega) | decide) (by first | omega | assumption | (simp; done) | (simp; omega) | decide) (by first | omega | assumption | (simp; done) | (simp; omega) | decide) (by first | omega | assumption | (simp; done) | (simp; omega) | decide) rfl ?_; clear hE a; intro a v17 hE hr17 hvb17
  replace hr17 : (rd v17 1 (bs.take (min bs.length 500)).length (c - 0) (bv (bs.take (min bs.length 500)))).holds _ := rd_take (by first | omega | assumption | (simp; done) | (simp; omega) | decide) hr17
  replace hM := hM.addPart 1 rfl hr17 hvb17; clear hr17
  refine s_assign hE rfl rfl ?_; clear hE a; intro a hE
  refine q_nil ?_
  replace hE : Env a 76 [(1, _), (2, _), (4, _)] := hE.sel [1, 2, 4] rfl
  refine hK2 _ _ ?_
  refine wp_seq_k (fun K3 hK3 => ?_)
  refine wp_plain [false, true, false, false, false, true] rfl rfl ?_
  refine s_buildSlice (xs := []) ([]) hE hM sl42 rfl rfl rfl (by intro v hv; cases hv) rfl rfl rfl rfl ?_; clear hE a; intro a v18 w2 hE hM'
  clear hM; have hM := hM'; clear hM'
  replace hM := hM.ownEq (m' := ([] : List UInt8).length) (cs' := bv ([] : List UInt8)) rfl rfl
  refine s_move hE rfl rfl ?_; clear hE a; intro a hE
  refine s_append hE rfl rfl hM sl42 (Src.rd Tryd.underlying42 (hM.get 1 rfl) (bv_one _)) (len47 (by have hl_x : ([] : List UInt8).length = 0 := (by first | (simp; done) | (simp [*]; done) | (simp; omega)); have hl_y : (bs.take (min bs.length 500)).length = min bs.length 500 := (by first | (simp; done) | (simp [*]; done) | (simp; omega)); first | omega | (simp; done) | (simp; omega))) (by have hl_x : ([] : List UInt8).length = 0 := (by first | (simp; done) | (simp [*]; done) | (simp; omega)); have hl_y : (bs.take (min bs.length 500)).length = min bs.length 500 := (by first | (simp; done) | (simp [*]; done) | (simp; omega)); first | omega | (simp; done) | (simp; omega)) (by intro X h; cases h) rfl ?_; clear hE a; intro a v20 w3 hE hM'; clear hM; have hM := hM'; clear hM'
  replace hM := Mem.ownNil (q := bs.take (min bs.length 500)) hM rfl (by first | rfl | (simp; done))
  refine s_buildSlice (xs := [.const (.int .u8 7), .const (.int .u8 7)]) (bv [7, 7]) hE hM sl42 rfl rfl rfl (by intro v hv; first | (cases hv; done) | (obtain ⟨x, _, rfl⟩ := List.mem_map.1 (show v ∈ bv [7, 7] from hv); rfl)) rfl rfl rfl rfl ?_; clear hE a; intro a v21 w4 hE hM'
  clear hM; have hM := hM'; clear hM'
  replace hM := hM.ownEq (m' := [7, 7].length) (cs' := bv [7, 7]) rfl rfl
  replace hM : Mem _ _ w4 [_, _, _, _, _, _, _] := hM.pick [1, 0, 2, 3, 4, 5, 6] rfl
  obtain ⟨cq1, hq1⟩ := own_rd (hM.get 1 rfl)
  refine s_append hE rfl rfl hM sl42 (Src.rd Tryd.underlying42 hq1 (bv_one _)) (len47 (by have hl_x : (bs.take (min bs.length 500)).length = min bs.length 500 := (by first | (simp; done) | (simp [*]; done) | (simp; omega)); have hl_y : [7, 7].length = 2 := (by first | (simp; done) | (simp [*]; done) | (simp; omega)); first | omega | (simp; done) | (simp; omega))) (by have hl_x : (bs.take (min bs.length 500)).length = min bs.length 500 := (by first | (simp; done) | (simp [*]; done) | (simp; omega)); have hl_y : [7, 7].length = 2 := (by first | (simp; done) | (simp [*]; done) | (simp; omega)); first | omega | (simp; done) | (simp; omega)) (by intro X h; cases h) rfl ?_; clear hE a; intro a v22 w5 hE hM'; clear hM; have hM := hM'; clear hM'
  replace hM := Mem.ownApp (p := bs.take (min bs.length 500)) (q := [7, 7]) hM (by first | rfl | (simp; done))
  replace hM : Mem _ _ w5 [_, _, _, _, _, _] := hM.pick [0, 2, 3, 4, 5, 6] rfl
  refine s_assign hE rfl rfl ?_; clear hE a; intro a hE
  refine q_nil ?_
  replace hE : Env a 76 [(1, _), (2, _), (4, _), (5, _)] := hE.sel [1, 2, 4, 5] rfl
  refine hK3 _ _ ?_
  refine wp_seq_k (fun K4 hK4 => ?_)
  refine wp_drawnM hM (by kernel_rfl) (fun _ => False) [(0, true), (1, true), (2, true), (3, true), (4, true), (5, false), (6, true)] [(5, [(6, 5)])] (by kernel_rfl) rfl ?_
  intro w6 hM' hww6; clear hM; have hM := hM'; clear hM'
  refine s_move hE rfl rfl ?_; clear hE a; intro a hE
  refine s_move hE rfl rfl ?_; clear hE a; intro a hE
  refine s_len hE rfl Tryd.underlying42 (rd_slice (hM.get 1 rfl)) rfl ?_; clear hE a; intro a hE
  replace hE := hE.cast 25 rfl (show _ = Value.int .i64 ((min bs.length 500 : Nat) : Int) from (congrArg (fun n : Nat => Value.int .i64 (n : Int)) (by first | (simp; done) | (simp [*]; done) | (simp; omega))))
  refine s_sliceTo (l := min bs.length 500) hE rfl (hM.get 0 rfl) slt42 ⟨_, rfl⟩ (by first | omega | (simp only [List.length_append, List.length_take, List.length_cons, List.length_nil]; omega) | (simp; omega) | (simp [*]; omega) | decide +kernel) rfl ?_; clear hE a; intro a hE
  refine s_loadN hE rfl (hM.get 2 rfl) row29 rfl (by intro X h; cases h; simp) rfl ?_; clear hE a; intro a hE
  replace hE := hE.cast 27 rfl (show _ = Value.agg ([bv d, bv t] : List (List Value)).flatten.toArray from (by first | (simp only [List.flatten_cons, List.flatten_nil, List.append_nil, List.append_assoc]; done) | rfl | simp))
  obtain ⟨cs2, hs2⟩ := own_subR (hM.get 0 rfl) (l := min bs.length 500) (by first | omega | assumption | (simp; done) | (simp; omega) | decide) (by first | rfl | simp)
  refine s_call hE rfl Tryd.call23 (boxput_c _ (((bs.take (min bs.length 500)) ++ [7, 7]).take (min bs.length 500)) _ d t _ hs2 hl_d hl_t (by have hl_0 : (((bs.take (min bs.length 500)) ++ [7, 7]).take (min bs.length 500)).length = min bs.length 500 := (by first | (simp; done) | (simp [*]; done) | (simp; omega)); have hl_1x : d.length = 32 := hl_d; have hl_1y : t.length = 32 := hl_t; first | omega | assumption | (simp; done) | (simp; omega) | decide)) rfl ?_
  rintro e w7 ⟨v28, rfl, hN⟩
  refine ⟨_, rfl, hN.sta0 _, ?_⟩; clear hE a; intro a hE
  replace hM : Mem _ _ w7 [_, _, _, _, _, _, _] := hM.call0 hN ⟨rfl, trivial⟩; clear hN
  refine s_assign hE rfl rfl ?_; clear hE a; intro a hE
  refine q_nil ?_
  replace hE : Env a 76 [(1, _), (2, _), (4, _), (5, _), (6, _)] := hE.sel [1, 2, 4, 5, 6] rfl
  refine hK4 _ _ ?_
  refine wp_seq_k (fun K5 hK5 => ?_)
  refine wp_plain [true, false, true, true, true, true, false, false, true, true] rfl rfl ?_
  refine s_move hE rfl rfl ?_; clear hE a; intro a hE
  refine s_call hE rfl Tryd.call24 (boxget_a _ (bs.take (min bs.length 500)) _ _ (hM.get 2 rfl) (by have hl_ : (bs.take (min bs.length 500)).length = min bs.length 500 := (by first | (simp; done) | (simp [*]; done) | (simp; omega)); first | omega | (simp; omega) | decide)) rfl ?_
  rintro e w8 ⟨v31, rfl, hN⟩
  refine ⟨_, rfl, trivial, ?_⟩; clear hE a; intro a hE
  replace hM : Mem _ _ w8 [_, _, _, _, _, _, _, _] := hM.call0 hN ⟨rfl, trivial⟩; clear hN
  refine s_move hE rfl rfl ?_; clear hE a; intro a hE
  refine s_extract hE rfl rfl rfl ?_; clear hE a; intro a hE
  refine s_extract hE rfl rfl rfl ?_; clear hE a; intro a hE
  refine s_extract hE rfl rfl rfl ?_; clear hE a; intro a hE
  refine s_alloc [32, 32] hE hM zero29 rfl rfl ?_; clear hE a; intro a b7 w9 hE hM'
  clear hM; have hM := hM'; clear hM'
  refine s_storeSegs 0 2 (vss := [bv (getBd (bs.take (min bs.length 500))), bv (getBt (bs.take (min bs.length 500)))]) hE rfl rfl hM rfl sz29 (by have hl_s0 : (getBd (bs.take (min bs.length 500))).length = 32 := (getBd_len (bs.take (min bs.length 500))); have hl_s1 : (getBt (bs.take (min bs.length 500))).length = 32 := (getBt_len (bs.take (min bs.length 500)));  simp only [List.map_cons, List.map_nil, bv_length, List.length_cons, List.length_nil, List.take_succ_cons, List.take_zero, List.drop_zero, List.drop_succ_cons, hl_s0, hl_s1]) (by decide) rfl (one_fl ⟨bv_one _, bv_one _, trivial⟩) rfl (by intro X h; cases h) ?_; intro w10 hM'; clear hM; have hM := hM'; clear hM'
  simp only [List.take_zero, List.take_succ_cons, List.drop_zero, List.drop_succ_cons, List.take_nil, List.drop_nil, List.nil_append, List.append_nil, List.cons_append] at hM
  refine s_assign hE rfl rfl ?_; clear hE a; intro a hE
  refine s_assign hE rfl rfl ?_; clear hE a; intro a hE
  refine q_nil ?_
  replace hE : Env a 76 [(1, _), (2, _), (4, _), (5, _), (6, _), (7, _), (8, _), (9, _)] := hE.sel [1, 2, 4, 5, 6, 7, 8, 9] rfl
  refine hK5 _ _ ?_
  refine wp_seq_k (fun K6 hK6 => ?_)
  refine wp_plain [true, false, true, true, true, true, false, false, true, true] rfl rfl ?_
  refine s_move hE rfl rfl ?_; clear hE a; intro a hE
  refine s_call hE rfl Tryd.call25 (rboxget_a _ (bs.take (min bs.length 500)) _ _ (hM.get 4 rfl) (by have hl_ : (bs.take (min bs.length 500)).length = min bs.length 500 := (by first | (simp; done) | (simp [*]; done) | (simp; omega)); first | omega | (simp; omega) | decide)) rfl ?_
  rintro e w11 ⟨v37, rfl, hN⟩
  refine ⟨_, rfl, trivial, ?_⟩; clear hE a; intro a hE
  replace hM : Mem _ _ w11 [_, _, _, _, _, _, _, _, _, _] := hM.call0 hN ⟨rfl, trivial⟩; clear hN
  refine s_move hE rfl rfl ?_; clear hE a; intro a hE
  refine s_extract hE rfl rfl rfl ?_; clear hE a; intro a hE
  refine s_extract hE rfl rfl rfl ?_; clear hE a; intro a hE
  refine s_extract hE rfl rfl rfl ?_; clear hE a; intro a hE
  refine s_alloc [32, 32] hE hM zero29 rfl rfl ?_; clear hE a; intro a b10 w12 hE hM'
  clear hM; have hM := hM'; clear hM'
  refine s_storeSegs 0 2 (vss := [bv (getBd (bs.take (min bs.length 500))), bv (getBt (bs.take (min bs.length 500)))]) hE rfl rfl hM rfl sz29 (by have hl_s0 : (getBd (bs.take (min bs.length 500))).length = 32 := (getBd_len (bs.take (min bs.length 500))); have hl_s1 : (getBt (bs.take (min bs.length 500))).length = 32 := (getBt_len (bs.take (min bs.length 500)));  simp only [List.map_cons, List.map_nil, bv_length, List.length_cons, List.length_nil, List.take_succ_cons, List.take_zero, List.drop_zero, List.drop_succ_cons, hl_s0, hl_s1]) (by decide) rfl (one_fl ⟨bv_one _, bv_one _, trivial⟩) rfl (by intro X h; cases h) ?_; intro w13 hM'; clear hM; have hM := hM'; clear hM'
  simp only [List.take_zero, List.take_succ_cons, List.drop_zero, List.drop_succ_cons, List.take_nil, List.drop_nil, List.nil_append, List.append_nil, List.cons_append] at hM
  refine s_assign hE rfl rfl ?_; clear hE a; intro a hE
  refine s_assign hE rfl rfl ?_; clear hE a; intro a hE
  refine q_nil ?_
  replace hE : Env a 76 [(1, _), (2, _), (4, _), (5, _), (6, _), (7, _), (8, _), (9, _), (10, _), (11, _), (12, _)] := hE.sel [1, 2, 4, 5, 6, 7, 8, 9, 10, 11, 12] rfl
  refine hK6 _ _ ?_
  refine wp_seq_k (fun K7 hK7 => ?_)
  refine wp_drawnM hM (by kernel_rfl) (fun _ => False) [(0, true), (1, true), (2, true), (3, true), (4, false), (5, true), (6, true), (7, true), (8, true), (9, true), (10, true), (11, true), (12, true), (13, true), (14, true), (15, true), (16, true), (17, true), (18, true), (19, true), (20, true), (21, true), (22, true), (23, true), (24, true), (25, true), (26, true), (27, true), (28, true), (29, true), (30, true), (31, true), (32, true), (33, false), (34, true), (35, true)] [(4, [(5, 4), (6, 5), (7, 4), (8, 7), (9, 7), (10, 9), (11, 8), (12, 11), (13, 12), (14, 13), (15, 14), (16, 15), (17, 15), (18, 16), (19, 18), (20, 19), (21, 20), (22, 20), (23, 20), (24, 20), (25, 24), (26, 25), (27, 26), (28, 27), (29, 27), (30, 27), (31, 27), (32, 27), (33, 32), (34, 32), (35, 4)]), (33, [(34, 33), (35, 33)])] (by kernel_rfl) rfl ?_
  intro w14 hM' hww14; clear hM; have hM := hM'; clear hM'
  refine s_move hE rfl rfl ?_; clear hE a; intro a hE
  obtain ⟨cs42, hs42⟩ := own_rd (hM.get 4 rfl)
  refine s_toStr hE rfl Tryd.underlying42 Tryd.underlying5 Tryd.underlying9 hs42 (by intro X h; cases h; simp) rfl ?_; clear hE a; intro a hE
  refine s_move hE rfl rfl ?_; clear hE a; intro a hE
  refine s_loadN hE rfl (hM.get 7 rfl) row29 rfl (by intro X h; cases h; simp) rfl ?_; clear hE a; intro a hE
  replace hE := hE.cast 44 rfl (show _ = Value.agg ([bv d, bv t] : List (List Value)).flatten.toArray from (by first | (simp only [List.flatten_cons, List.flatten_nil, List.append_nil, List.append_assoc]; done) | rfl | simp))
  refine s_call hE rfl Tryd.call26 (rboxput_c _ (bs.take (min bs.length 500)) _ d t _ (hM.get 6 rfl) hl_d hl_t (by have hl_0 : (bs.take (min bs.length 500)).length = min bs.length 500 := (by first | (simp; done) | (simp [*]; done) | (simp; omega)); have hl_1x : d.length = 32 := hl_d; have hl_1y : t.length = 32 := hl_t; first | omega | assumption | (simp; done) | (simp; omega) | decide)) rfl ?_
  rintro e w15 ⟨v45, rfl, hN⟩
  refine ⟨_, rfl, hN.sta0 _, ?_⟩; clear hE a; intro a hE
  replace hM : Mem _ _ w15 [_, _, _, _, _, _, _, _, _, _, _, _] := hM.call0 hN ⟨rfl, trivial⟩; clear hN
  obtain ⟨cs46, hs46⟩ := own_rd (hM.get 0 rfl)
  refine s_toStr hE rfl Tryd.underlying42 Tryd.underlying5 Tryd.underlying9 hs46 (by intro X h; cases h; simp) rfl ?_; clear hE a; intro a hE
  refine s_bin hE rfl rfl bins_str.1 rfl ?_; clear hE a; intro a hE
  refine s_move hE rfl rfl ?_; clear hE a; intro a hE
  replace hE := hE.cast 48 rfl (show _ = Value.bool true from (congrArg Value.bool (by first | (with_reducible exact decide_eq_true rfl) | (with_reducible exact decide_eq_true ⟨rfl, rfl⟩) | (simp; done))))
  refine g_yes hE rfl rfl ?_
  refine s_move hE rfl rfl ?_; clear hE a; intro a hE
  refine g_yes hE rfl rfl ?_
  refine s_move hE rfl rfl ?_; clear hE a; intro a hE
  refine g_yes hE rfl rfl ?_
  refine s_len hE rfl Tryd.underlying42 (rd_slice (hM.get 7 rfl)) rfl ?_; clear hE a; intro a hE
  replace hE := hE.cast 51 rfl (show _ = Value.int .i64 ((min bs.length 500 : Nat) : Int) from (congrArg (fun n : Nat => Value.int .i64 (n : Int)) (by first | (simp; done) | (simp [*]; done) | (simp; omega))))
  refine g_yes hE rfl rfl ?_
  obtain ⟨cx52, hx52⟩ := own_rd (hM.get 6 rfl)
  refine s_indexRd (j := min bs.length 500) hE rfl hx52 rfl slt42 (by first | rfl | omega) (by have hl_ : ((bs.take (min bs.length 500)) ++ [7, 7]).length = min bs.length 500 + 2 := (by first | (simp; done) | (simp [*]; done) | (simp; omega)); first | omega | (rw [bv_length]; omega) | (simp; omega)) rfl ?_; clear hE a; intro a p52 hE hc52 hp52
  refine g_yes hE rfl rfl ?_
  rw [bv_elem (by have hl_ : ((bs.take (min bs.length 500)) ++ [7, 7]).length = min bs.length 500 + 2 := (by first | (simp; done) | (simp [*]; done) | (simp; omega)); first | omega | (rw [bv_length]; omega) | (simp; omega))] at hc52
  refine s_loadAt1 hE rfl hc52 one5 (by intro X h; cases h; simp) rfl ?_; clear hE a; intro a hE
  refine g_yes hE rfl rfl ?_
  refine s_bin hE rfl rfl bin_eql rfl ?_; clear hE a; intro a hE
  refine s_pickt hE rfl rfl rfl ?_; clear hE a; intro a hE
  refine s_move hE rfl rfl ?_; clear hE a; intro a hE
  replace hE := hE.cast 56 rfl (show _ = Value.bool true from (congrArg Value.bool (by simp [List.getD])))
  refine g_yes hE rfl rfl ?_
  refine s_loadN hE rfl (hM.get 3 rfl) row29 rfl (by intro X h; cases h; simp) rfl ?_; clear hE a; intro a hE
  replace hE := hE.cast 57 rfl (show _ = Value.agg ([bv (getBd (bs.take (min bs.length 500))), bv (getBt (bs.take (min bs.length 500)))] : List (List Value)).flatten.toArray from (by first | (simp only [List.flatten_cons, List.flatten_nil, List.append_nil, List.append_assoc]; done) | rfl | simp))
  refine g_yes hE rfl rfl ?_
  refine s_loadN hE rfl (hM.get 1 rfl) row29 rfl (by intro X h; cases h; simp) rfl ?_; clear hE a; intro a hE
  replace hE := hE.cast 58 rfl (show _ = Value.agg ([bv (getBd (bs.take (min bs.length 500))), bv (getBt (bs.take (min bs.length 500)))] : List (List Value)).flatten.toArray from (by first | (simp only [List.flatten_cons, List.flatten_nil, List.append_nil, List.append_assoc]; done) | rfl | simp))
  refine g_yes hE rfl rfl ?_
  refine s_bin hE rfl rfl ((eqk29 (b := decide ((getBd (bs.take (min bs.length 500))) = (getBd (bs.take (min bs.length 500))) ∧ (getBt (bs.take (min bs.length 500))) = (getBt (bs.take (min bs.length 500))))) (kl29 (k := 0) (x0 := getBd (bs.take (min bs.length 500))) (x1 := getBt (bs.take (min bs.length 500))) (getBd_len (bs.take (min bs.length 500))) (getBt_len (bs.take (min bs.length 500)))) (kl29 (k := 0) (x0 := getBd (bs.take (min bs.length 500))) (x1 := getBt (bs.take (min bs.length 500))) (getBd_len (bs.take (min bs.length 500))) (getBt_len (bs.take (min bs.length 500)))) (by rw [flat_eq (by have hl_x0 : (getBd (bs.take (min bs.length 500))).length = 32 := (getBd_len (bs.take (min bs.length 500))); have hl_x1 : (getBt (bs.take (min bs.length 500))).length = 32 := (getBt_len (bs.take (min bs.length 500))); have hl_y0 : (getBd (bs.take (min bs.length 500))).length = 32 := (getBd_len (bs.take (min bs.length 500))); have hl_y1 : (getBt (bs.take (min bs.length 500))).length = 32 := (getBt_len (bs.take (min bs.length 500))); simp only [List.map_cons, List.map_nil, bv_length, List.length_cons, List.length_nil, hl_x0, hl_x1, hl_y0, hl_y1])]; simp [bv_iff, Int.ofNat_inj]; try omega)).1) rfl ?_; clear hE a; intro a hE
  refine s_pickt hE rfl rfl rfl ?_; clear hE a; intro a hE
  refine s_move hE rfl rfl ?_; clear hE a; intro a hE
  replace hE := hE.cast 61 rfl (show _ = Value.bool true from (congrArg Value.bool (by first | (with_reducible exact decide_eq_true rfl) | (with_reducible exact decide_eq_true ⟨rfl, rfl⟩) | (simp; done))))
  refine g_yes hE rfl rfl ?_
  refine s_move hE rfl rfl ?_; clear hE a; intro a hE
  refine g_yes hE rfl rfl ?_
  obtain ⟨cs63, hs63⟩ := own_rd (hM.get 4 rfl)
  refine s_toStr hE rfl Tryd.underlying42 Tryd.underlying5 Tryd.underlying9 hs63 (by intro X h; cases h; simp) rfl ?_; clear hE a; intro a hE
  refine g_yes hE rfl rfl ?_
  refine s_move hE rfl rfl ?_; clear hE a; intro a hE
  refine g_yes hE rfl rfl ?_
  obtain ⟨cs65, hs65⟩ := own_rd (hM.get 2 rfl)
  refine s_toStr hE rfl Tryd.underlying42 Tryd.underlying5 Tryd.underlying9 hs65 (by intro X h; cases h; simp) rfl ?_; clear hE a; intro a hE
  refine g_yes hE rfl rfl ?_
  refine s_bin hE rfl rfl bins_str.1 rfl ?_; clear hE a; intro a hE
  refine s_pickt hE rfl rfl rfl ?_; clear hE a; intro a hE
  refine s_move hE rfl rfl ?_; clear hE a; intro a hE
  replace hE := hE.cast 68 rfl (show _ = Value.bool true from (congrArg Value.bool (by first | (with_reducible exact decide_eq_true rfl) | (with_reducible exact decide_eq_true ⟨rfl, rfl⟩) | (simp; done))))
  refine g_yes hE rfl rfl ?_
  refine s_move hE rfl rfl ?_; clear hE a; intro a hE
  refine g_yes hE rfl rfl ?_
  refine s_move hE rfl rfl ?_; clear hE a; intro a hE
  refine g_yes hE rfl rfl ?_
  refine s_bin hE rfl rfl bin_eql rfl ?_; clear hE a; intro a hE
  refine s_pickt hE rfl rfl rfl ?_; clear hE a; intro a hE
  refine s_move hE rfl rfl ?_; clear hE a; intro a hE
  replace hE := hE.cast 73 rfl (show _ = Value.bool true from (congrArg Value.bool (by first | (with_reducible exact decide_eq_true rfl) | (with_reducible exact decide_eq_true ⟨rfl, rfl⟩) | (simp; done))))
  refine g_yes hE rfl rfl ?_
  refine s_call hE rfl Tryd.call17 (works10_c  _ (hM.get 10 rfl) (hM.get 11 rfl)) rfl ?_
  rintro e w16 ⟨rfl, hN⟩
  refine ⟨_, rfl, hN.sta0 _, ?_⟩; clear hE a; intro a hE
  replace hM : Mem _ _ w16 [_, _, _, _, _, _, _, _, _, _, _, _] := hM.call0 hN trivial; clear hN
  refine s_pickt hE rfl rfl rfl ?_; clear hE a; intro a hE
  refine s_assign hE rfl rfl ?_; clear hE a; intro a hE
  refine q_nil ?_
  replace hE : Env a 76 [(1, _), (2, _), (4, _), (5, _), (7, _), (10, _)] := hE.sel [1, 2, 4, 5, 7, 10] rfl
  refine hK7 _ _ ?_
  refine wp_ret ?_
  refine f_ret1 hE rfl rfl ?_
  exact ⟨(by first | rfl | (simp; done)), hM.pick [] rfl⟩
set_option maxRecDepth 100000 in
theorem boxLays_lifted (os : Os) (started : os.Started) (H : Type) (enc : TypeId × Value → H) :
    ReturnsInHanded {} Tryd.checked os 5 .any (fun w args => (Rows.boxLaysSpec.pre enc Tryd.prog Tryd.f5 [] false w args ∧ laidMetH Tryd.prog Rows.boxLaysRow.laid w) ∧ sizedMet enc Tryd.prog Tryd.f5 (OpenSpec.ofChange Rows.boxLaysSpec) false w args) (Rows.boxLaysSpec.post enc Tryd.prog Tryd.f5 false true false false) := by
  refine law_liftedL (C := Tryd.checked) (fn := Tryd.f5) (l := Rows.boxLaysRow.laid) (by kernel_rfl) started (by kernel_rfl) Tryd.func5 rfl (fun ds hl => ?_) rfl Tryd.underlying4 (by kernel_rfl) (of_decide_eq_true (by kernel_rfl)) (by kernel_rfl)
    (ChangeSpec.witness_shaped (enc := enc) (C := Tryd.checked) (os := os) (X := fun w _ => laidMetH Tryd.prog Rows.boxLaysRow.laid w) false (World.laidAll Tryd.prog os Rows.boxLaysRow.laid) #[.agg (bv (List.replicate 64 0)).toArray, .slice none 0 0] 8 (World.laidAll_os _ _ _) (World.shaped_of_ZipB (by kernel_rfl) (by kernel_rfl)) (by kernel_rfl) (by kernel_rfl) (by kernel_rfl) (by rw [MakeChecks.laidMetH_plain _ _ _ (by kernel_rfl)]; exact laidMet_laidAll _ (by kernel_rfl) (by kernel_rfl))) ?_
  · rw [Tryd.params5] at hl
    match ds, hl with
    | [_, _], _ => rfl
  · intro W base args ds ps hval hA hw hL
    have hG := glb_of_laid (P := Tryd.prog) (g := 1) (t := 170) (e := 129) (by kernel_rfl) (by kernel_rfl) Tryd.underlying170 Tryd.underlying129 (by kernel_rfl) (by kernel_rfl) (by kernel_rfl) (show laidMet Tryd.prog (_ :: _) W from (laidMet_tail (laidMet_tail (laidMet_tail hL))))
    have hT : tabP.holds W := tabE_of_laid (P := Tryd.prog) (g := 0) (t := 163) (e := 24) (n := 20) (by kernel_rfl) (by kernel_rfl) Tryd.underlying163 Tryd.underlying24 (by kernel_rfl) (by kernel_rfl) (by kernel_rfl) (show laidMet Tryd.prog (_ :: _) W from (laidMet_tail (laidMet_tail hL)))
    rw [Tryd.params5] at hA hval hw
    obtain ⟨v0, vs0, d0, ds0, p0, q0, hargs, rfl, rfl, h0, r0⟩ := trodAll_cons hA
    obtain ⟨v1, vs1, d1, ds1, p1, q1, rfl, rfl, rfl, h1, r1⟩ := trodAll_cons r0
    obtain ⟨rfl, rfl, rfl⟩ := trodAll_nil r1
    obtain rfl : args = #[v0, v1] := by cases args; simp_all
    obtain ⟨cs0, rfl, hcs0⟩ := okWide_struct Tryd.underlying29 (hval 0 29 v0 rfl rfl)
    obtain ⟨_, _, hc0, ⟨d, rfl, hld⟩, ⟨t, rfl, hlt⟩⟩ := trod_of (dec_f2 (t := 29) (s := 64) (n0 := 32) (n1 := 32) Tryd.underlying29 (by kernel_rfl) (by kernel_rfl) rfl (dec_arr8 (n := 32) Tryd.underlying23 Tryd.underlying5 (by kernel_rfl) (by kernel_rfl)) (dec_arr8 (n := 32) Tryd.underlying27 Tryd.underlying5 (by kernel_rfl) (by kernel_rfl))) h0 (fun m hm => hw m (by simp only [DataW.weightsEach, List.mem_append]; exact .inl hm))
    have ecs0 := agg_of hc0
    subst ecs0
    obtain ⟨bs1, c1, hr1, hb1⟩ := arg_bytes Tryd.underlying42 Tryd.underlying5 (by kernel_rfl) (by kernel_rfl) (hval 1 42 v1 rfl rfl) h1 (fun m hm => hw m (by simp only [DataW.weightsEach, List.mem_append]; exact .inr (.inl hm)))
    have ef : ∀ (a b : List Value), ([a, b] : List (List Value)).flatten = a ++ b := fun a b => by simp
    have ef3 : ∀ (a b c : List Value), ([a, b, c] : List (List Value)).flatten = a ++ (b ++ c) := fun a b c => by simp
    exact (by have h := boxLays_c d t v1 bs1 c1 W hG hT hld hlt hr1; rw [ef] at h; exact h)

/-- The row's statement. -/
theorem boxLays_row : Rows.BoxLaysSaid :=
  OpenClaim.holds_of_wide 5 Tryd.f5 rfl rfl rfl rfl rfl rfl rfl ⟨rfl, rfl, rfl, rfl, rfl⟩ rfl rfl rfl rfl rfl (by kernel_rfl) Tryd.func5 (by kernel_rfl)
    (of_decide_eq_true (by kernel_rfl)) (by unfold Func.isWrapper; first | (rw [if_pos (by decide +kernel)]; kernel_rfl) | (rw [if_neg (by decide +kernel)]; exact ⟨rfl, rfl⟩))
    (fun os started H enc _ => boxLays_lifted os started H enc)

/-- The statement: the row, its listed variable tied to the program's text. -/
theorem boxLays_holds : Rows.BoxLaysCardSaid :=
  Claim7.holds_tied_plain_at .later [] [.data, .data, .data, .data] true (true, "260fdf816069b3bf8e1fff31512b0488977d0f5c26e19155cc996da54a266071") false
    boxLays_row (fun _ h => by cases h) (by kernel_rfl) (fun _ h => by cases h) boxLays_row_tie rfl ⟨rfl, rfl⟩ (by kernel_rfl) rfl
    (fun f fn hf hfn => by
      obtain rfl : f = 5 := Option.some.inj ((show Tryd.prog.funcNamed "casemate/casematelaw10.BoxLays" = some 5 by kernel_rfl).symm.trans hf) |>.symm
      obtain rfl : fn = Tryd.f5 := (Option.some.inj (Tryd.func5.symm.trans hfn)).symm
      exact ⟨by kernel_rfl, fun j t ht => by
        rw [Tryd.params5] at ht
        have h : t ∈ [29, 42] := by
          rcases j with _ | _ | j
          · simp at ht; simp [ht]
          · simp at ht; simp [ht]
          · simp at ht
        simp only [List.mem_cons, List.not_mem_nil, or_false] at h
        rcases h with rfl | rfl
        · exact (show Tryd.prog.wantsStandIn 29 = false by kernel_rfl)
        · exact (show Tryd.prog.wantsStandIn 42 = false by kernel_rfl)⟩)
    (by kernel_rfl)
#print axioms boxLays_holds
end Go.Proofs.YtniekapfoaiieaaDoor
