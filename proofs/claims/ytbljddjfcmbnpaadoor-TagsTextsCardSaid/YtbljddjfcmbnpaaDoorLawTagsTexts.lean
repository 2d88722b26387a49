/- TagsTexts of casematelaw17 returns true for whatever key and bytes; they read behind the call as before. No condition. -/
import Derived.Test.YtbljddjfcmbnpaaDoorLt
import Derived.Test.YtbljddjfcmbnpaaDoorTie
import Derived.Test.YtbljddjfcmbnpaaDoorCards
namespace Go.Proofs.YtbljddjfcmbnpaaDoor
open Go Go.Kx
open Go.ChangeShapes Go.WideShapes Go.ChangeAt Go.RowKit
theorem eqa34 : ∀ {a b : List UInt8}, a.length = 32 → b.length = 32 → Bin Tryd.prog .eql 34 (.agg (bv a).toArray) (.agg (bv b).toArray) (.bool (decide (a = b))) ∧ Bin Tryd.prog .neq 34 (.agg (bv a).toArray) (.agg (bv b).toArray) (.bool (!decide (a = b))) := fun ha hb => bins_arr8 Tryd.underlying34 (by kernel_rfl) Tryd.underlying5 (by kernel_rfl) (by kernel_rfl) ha hb
theorem tagsTexts_c (k : List UInt8) (v : Value) (bs : List UInt8) (c : Nat) (w : World) (hG : (glb 1).holds w) (hl_k : k.length = 32) (hr_bs : (rd v 1 bs.length c (bv bs)).holds w) : Calls Tryd.prog 9 #[.agg (bv k).toArray, v] w fun e w' => e = .returned (.bool true) ∧ Mem w [] w' [] := by
  have hM : Mem w [] w [rd v 1 bs.length c (bv bs), glb 1] := Mem.startR w (fun g hg => by
    simp only [List.mem_cons, List.not_mem_nil, or_false] at hg
    rcases hg with rfl | rfl
    · exact ⟨hr_bs, rfl⟩
    · exact ⟨hG, rfl⟩)
  refine f_enter 104 Tryd.func9 rfl rfl rfl ?_
  intro a hE
  replace hE : Env a 104 [(0, _), (1, _)] := hE
  refine wp_seq_k (fun K1 hK1 => ?_)
  refine wp_plain [false, true] rfl rfl ?_
  refine s_box (ss := [bv k]) [32] hE hM rfl (by simp [Value.cells]) (by simp [*]) rfl ?_; clear hE a; intro a b2 w1 hE hM'
  clear hM; have hM := hM'; clear hM'
  refine s_assign hE rfl rfl ?_; clear hE a; intro a hE
  refine q_nil ?_
  replace hE : Env a 104 [(1, _), (2, _), (4, _)] := hE.sel [1, 2, 4] rfl
  refine hK1 _ _ ?_
  refine wp_seq_k (fun K2 hK2 => ?_)
  refine wp_seq_k (fun K3 hK3 => ?_)
  refine wp_plain [true, true, true] rfl rfl ?_
  refine s_move hE rfl rfl ?_; clear hE a; intro a hE
  refine s_len hE rfl Tryd.underlying74 (rd_slice (hM.get 1 rfl)) rfl ?_; clear hE a; intro a hE
  refine s_bin hE rfl rfl bin_gtr rfl ?_; clear hE a; intro a hE
  refine q_nil ?_
  replace hE : Env a 104 [(1, _), (2, _), (4, _), (12, _)] := hE.sel [1, 2, 4, 12] rfl
  refine hK3 _ _ ?_
  refine hE.split 12 rfl (fun hb12 hE' => ?_) (fun hb12 hE' => ?_)
  · replace hE := hE'; clear hE'
    replace hb12 := of_decide_eq_true hb12
    refine wp_cond_true (hE.eval rfl) ?_
    refine wp_seq_k (fun K4 hK4 => ?_)
    refine wp_plain [false, true] rfl rfl ?_
    refine s_call hE rfl Tryd.call31 (bawake17_c _) rfl ?_
    rintro e w2 ⟨rfl, hN⟩
    refine ⟨_, rfl, trivial, ?_⟩; clear hE a; intro a hE
    replace hM : Mem _ _ w2 [_, _, _] := hM.call0 hN trivial; clear hN
    refine s_assign hE rfl rfl ?_; clear hE a; intro a hE
    refine q_nil ?_
    replace hE : Env a 104 [(1, _), (2, _), (4, _), (12, _)] := hE.sel [1, 2, 4, 12] rfl
    refine hK4 _ _ ?_
    refine wp_ret ?_
    refine q_then_r ?_
    refine f_ret1 hE rfl rfl ?_
    exact ⟨(by first | rfl | (simp; done)), hM.pick [] rfl⟩
  · replace hE := hE'; clear hE'
    replace hb12 := of_decide_eq_false hb12
    refine wp_cond_false (hE.eval rfl) ?_
    refine wp_skip ?_
    refine hK2 _ _ ?_
    refine wp_seq_k (fun K4 hK4 => ?_)
    refine wp_plain [false, true, false, true] rfl rfl ?_
    refine s_buildSlice (xs := []) ([]) hE hM sl74 rfl rfl rfl (by intro v hv; cases hv) rfl rfl rfl rfl ?_; clear hE a; intro a v14 w2 hE hM'
    clear hM; have hM := hM'; clear hM'
    replace hM := hM.ownEq (m' := ([] : List UInt8).length) (cs' := bv ([] : List UInt8)) rfl rfl
    refine s_move hE rfl rfl ?_; clear hE a; intro a hE
    refine s_append hE rfl rfl hM sl74 (Src.rd Tryd.underlying74 (hM.get 2 rfl) (bv_one _)) (len47 (by have hl_x : ([] : List UInt8).length = 0 := (by first | (simp; done) | (simp [*]; done) | (simp; omega)); first | omega | (simp; done) | (simp; omega))) (by have hl_x : ([] : List UInt8).length = 0 := (by first | (simp; done) | (simp [*]; done) | (simp; omega)); first | omega | (simp; done) | (simp; omega)) (by intro X h; cases h) rfl ?_; clear hE a; intro a v16 w3 hE hM'; clear hM; have hM := hM'; clear hM'
    replace hM := Mem.ownNil (q := bs) hM rfl (by first | rfl | (simp; done))
    refine s_assign hE rfl rfl ?_; clear hE a; intro a hE
    refine q_nil ?_
    replace hE : Env a 104 [(1, _), (2, _), (4, _), (5, _), (12, _)] := hE.sel [1, 2, 4, 5, 12] rfl
    refine hK4 _ _ ?_
    refine wp_seq_k (fun K5 hK5 => ?_)
    refine wp_plain [true, false, true, false, true, false, true, true, true] rfl rfl ?_
    refine s_move hE rfl rfl ?_; clear hE a; intro a hE
    obtain ⟨cq1, hq1⟩ := own_rd (hM.get 0 rfl)
    refine s_call hE rfl Tryd.call32 (broottext_c _ bs _ _ hq1 (by first | omega | assumption | (simp; done) | (simp; omega) | decide)) rfl ?_
    rintro e w4 ⟨v18, rfl, hN⟩
    refine ⟨_, rfl, trivial, ?_⟩; clear hE a; intro a hE
    replace hM : Mem _ _ w4 [_, _, _, _, _] := hM.call0 hN ⟨rfl, trivial⟩; clear hN
    refine s_move hE rfl rfl ?_; clear hE a; intro a hE
    obtain ⟨cq2, hq2⟩ := own_rd (hM.get 1 rfl)
    refine s_call hE rfl Tryd.call33 (bheadtext_c _ bs _ _ hq2 (by first | omega | assumption | (simp; done) | (simp; omega) | decide)) rfl ?_
    rintro e w5 ⟨v20, rfl, hN⟩
    refine ⟨_, rfl, trivial, ?_⟩; clear hE a; intro a hE
    replace hM : Mem _ _ w5 [_, _, _, _, _, _] := hM.call0 hN ⟨rfl, trivial⟩; clear hN
    refine s_move hE rfl rfl ?_; clear hE a; intro a hE
    obtain ⟨cq3, hq3⟩ := own_rd (hM.get 2 rfl)
    refine s_call hE rfl Tryd.call34 (bbodytext_c _ bs _ _ hq3 (by first | omega | assumption | (simp; done) | (simp; omega) | decide)) rfl ?_
    rintro e w6 ⟨v22, rfl, hN⟩
    refine ⟨_, rfl, trivial, ?_⟩; clear hE a; intro a hE
    replace hM : Mem _ _ w6 [_, _, _, _, _, _, _] := hM.call0 hN ⟨rfl, trivial⟩; clear hN
    refine s_assign hE rfl rfl ?_; clear hE a; intro a hE
    refine s_assign hE rfl rfl ?_; clear hE a; intro a hE
    refine s_assign hE rfl rfl ?_; clear hE a; intro a hE
    refine q_nil ?_
    replace hE : Env a 104 [(1, _), (2, _), (4, _), (5, _), (6, _), (7, _), (8, _), (12, _)] := hE.sel [1, 2, 4, 5, 6, 7, 8, 12] rfl
    refine hK5 _ _ ?_
    refine wp_seq_k (fun K6 hK6 => ?_)
    refine wp_seq_k (fun K7 hK7 => ?_)
    refine wp_drawnM hM (by kernel_rfl) (fun _ => False) [(0, true), (1, true), (2, true), (3, false), (4, true), (5, true), (6, true), (7, true), (8, true), (9, true), (10, false), (11, true), (12, true), (13, true), (14, true), (15, true), (16, true), (17, true), (18, false), (19, true), (20, true), (21, true)] [(3, [(4, 3), (5, 4), (6, 3), (7, 6), (8, 6), (9, 6), (10, 9), (11, 10), (12, 8), (13, 12), (14, 10), (15, 14), (16, 14), (17, 14), (18, 17), (19, 18), (20, 16), (21, 20)]), (10, [(11, 10), (12, 11), (13, 12), (14, 10), (15, 14), (16, 14), (17, 14), (18, 17), (19, 18), (20, 16), (21, 20)]), (18, [(19, 18), (20, 19), (21, 20)])] (by kernel_rfl) rfl ?_
    intro w7 hM' hww7; clear hM; have hM := hM'; clear hM'
    refine s_move hE rfl rfl ?_; clear hE a; intro a hE
    obtain ⟨cs24, hs24⟩ := own_rd (hM.get 2 rfl)
    refine s_toStr hE rfl Tryd.underlying74 Tryd.underlying5 Tryd.underlying9 hs24 (by intro X h; cases h; simp) rfl ?_; clear hE a; intro a hE
    refine s_move hE rfl rfl ?_; clear hE a; intro a hE
    refine s_call hE rfl Tryd.call35 (rplain_c 82 _ bs _ _ (hM.get 5 rfl) (by first | omega | assumption | (simp; done) | (simp; omega) | decide)) rfl ?_
    rintro e w8 ⟨v26, rfl, hN⟩
    refine ⟨_, rfl, hN.sta0 _, ?_⟩; clear hE a; intro a hE
    replace hM : Mem _ _ w8 [_, _, _, _, _, _, _, _] := hM.call0 hN ⟨rfl, trivial⟩; clear hN
    obtain ⟨cs27, hs27⟩ := own_rd (hM.get 0 rfl)
    refine s_toStr hE rfl Tryd.underlying74 Tryd.underlying5 Tryd.underlying9 hs27 (by intro X h; cases h; simp) rfl ?_; clear hE a; intro a hE
    refine s_bin hE rfl rfl bins_str.2 rfl ?_; clear hE a; intro a hE
    refine s_move hE rfl rfl ?_; clear hE a; intro a hE
    replace hE := hE.cast 29 rfl (show _ = Value.bool false from (congrArg Value.bool (by first | (with_reducible exact decide_eq_true rfl) | exact decide_eq_false (by omega) | (rw [decide_eq_true (by omega)]; rfl) | (rw [decide_eq_false (by omega)]; rfl) | rfl | decide | (simp; done) | (simp; omega) | (simp [*]; done))))
    refine g_yes hE rfl rfl ?_
    refine s_move hE rfl rfl ?_; clear hE a; intro a hE
    refine g_yes hE rfl rfl ?_
    obtain ⟨cs31, hs31⟩ := own_rd (hM.get 2 rfl)
    refine s_toStr hE rfl Tryd.underlying74 Tryd.underlying5 Tryd.underlying9 hs31 (by intro X h; cases h; simp) rfl ?_; clear hE a; intro a hE
    refine g_yes hE rfl rfl ?_
    refine s_move hE rfl rfl ?_; clear hE a; intro a hE
    refine g_yes hE rfl rfl ?_
    refine s_call hE rfl Tryd.call35 (rplain_c 72 _ bs _ _ (hM.get 6 rfl) (by first | omega | assumption | (simp; done) | (simp; omega) | decide)) rfl ?_
    rintro e w9 ⟨v33, rfl, hN⟩
    refine ⟨_, rfl, hN.sta0 _, ?_⟩; clear hE a; intro a hE
    replace hM : Mem _ _ w9 [_, _, _, _, _, _, _, _, _] := hM.call0 hN ⟨rfl, trivial⟩; clear hN
    refine g_yes hE rfl rfl ?_
    obtain ⟨cs34, hs34⟩ := own_rd (hM.get 0 rfl)
    refine s_toStr hE rfl Tryd.underlying74 Tryd.underlying5 Tryd.underlying9 hs34 (by intro X h; cases h; simp) rfl ?_; clear hE a; intro a hE
    refine g_yes hE rfl rfl ?_
    refine s_bin hE rfl rfl bins_str.2 rfl ?_; clear hE a; intro a hE
    refine s_pickf hE rfl rfl rfl ?_; clear hE a; intro a hE
    refine s_move hE rfl rfl ?_; clear hE a; intro a hE
    replace hE := hE.cast 37 rfl (show _ = Value.bool false from (congrArg Value.bool (by first | (with_reducible exact decide_eq_true rfl) | exact decide_eq_false (by omega) | (rw [decide_eq_true (by omega)]; rfl) | (rw [decide_eq_false (by omega)]; rfl) | rfl | decide | (simp; done) | (simp; omega) | (simp [*]; done))))
    refine g_yes hE rfl rfl ?_
    refine s_move hE rfl rfl ?_; clear hE a; intro a hE
    refine g_yes hE rfl rfl ?_
    obtain ⟨cs39, hs39⟩ := own_rd (hM.get 2 rfl)
    refine s_toStr hE rfl Tryd.underlying74 Tryd.underlying5 Tryd.underlying9 hs39 (by intro X h; cases h; simp) rfl ?_; clear hE a; intro a hE
    refine g_yes hE rfl rfl ?_
    refine s_move hE rfl rfl ?_; clear hE a; intro a hE
    refine g_yes hE rfl rfl ?_
    refine s_call hE rfl Tryd.call35 (rplain_c 66 _ bs _ _ (hM.get 7 rfl) (by first | omega | assumption | (simp; done) | (simp; omega) | decide)) rfl ?_
    rintro e w10 ⟨v41, rfl, hN⟩
    refine ⟨_, rfl, hN.sta0 _, ?_⟩; clear hE a; intro a hE
    replace hM : Mem _ _ w10 [_, _, _, _, _, _, _, _, _, _] := hM.call0 hN ⟨rfl, trivial⟩; clear hN
    refine g_yes hE rfl rfl ?_
    obtain ⟨cs42, hs42⟩ := own_rd (hM.get 0 rfl)
    refine s_toStr hE rfl Tryd.underlying74 Tryd.underlying5 Tryd.underlying9 hs42 (by intro X h; cases h; simp) rfl ?_; clear hE a; intro a hE
    refine g_yes hE rfl rfl ?_
    refine s_bin hE rfl rfl bins_str.2 rfl ?_; clear hE a; intro a hE
    refine s_pickf hE rfl rfl rfl ?_; clear hE a; intro a hE
    refine q_nil ?_
    replace hE : Env a 104 [(1, _), (2, _), (4, _), (5, _), (6, _), (7, _), (8, _), (12, _), (44, _)] := hE.sel [1, 2, 4, 5, 6, 7, 8, 12, 44] rfl
    refine hK7 _ _ ?_
    replace hE := hE.cast 44 rfl (show _ = Value.bool false from (congrArg Value.bool (by first | (with_reducible exact decide_eq_true rfl) | exact decide_eq_false (by omega) | (rw [decide_eq_true (by omega)]; rfl) | (rw [decide_eq_false (by omega)]; rfl) | rfl | decide | (simp; done) | (simp; omega) | (simp [*]; done))))
    refine wp_cond_false (hE.eval rfl) ?_
    refine wp_skip ?_
    refine hK6 _ _ ?_
    refine wp_seq_k (fun K8 hK8 => ?_)
    refine wp_seq_k (fun K9 hK9 => ?_)
    refine wp_plain [true] rfl rfl ?_
    refine s_assign hE rfl rfl ?_; clear hE a; intro a hE
    refine q_nil ?_
    refine hK9 _ _ ?_
    refine wp_block ?_
    replace hM : Mem _ _ w10 [_, _, _, _, _, _, _, _, _, _] := hM.pick [5, 0, 1, 2, 3, 4, 6, 7, 8, 9] rfl
    replace hM := Mem.ownB (p := plT 82 bs) (q := zapI (plT 82 bs) 0) hM rfl
    replace hM : Mem _ _ w10 [_, _, _, _, _, _, _, _, _, _] := hM.pick [5, 0, 1, 2, 3, 4, 6, 7, 8, 9] rfl
    replace hM := Mem.ownB (p := plT 72 bs) (q := zapI (plT 72 bs) 0) hM rfl
    replace hM : Mem _ _ w10 [_, _, _, _, _, _, _, _, _, _] := hM.pick [5, 0, 1, 2, 3, 4, 6, 7, 8, 9] rfl
    replace hM := Mem.ownB (p := plT 66 bs) (q := zapI (plT 66 bs) 0) hM rfl
    replace hM : Mem _ _ w10 [_, _, _, _, _, _, _, _, _, _] := hM.pick [3, 4, 5, 0, 1, 2, 6, 7, 8, 9] rfl
    refine c_loop (fun (i : Nat) a w' => i ≤ (6 + bs.length) ∧ Env a 104 [(1, v), (2, .pointer (some ⟨b2, 0, none⟩)), (4, .bool false), (5, v16), (6, v18), (7, v20), (8, v22), (9, .int .i64 ((i : Nat) : Int)), (12, .bool false), (44, .bool false)] ∧ Mem w [] w' [own v41 1 (plT 66 bs).length (bv (plT 66 bs)), own v33 1 (plT 72 bs).length (bv (plT 72 bs)), own v26 1 (plT 82 bs).length (bv (plT 82 bs)), own v22 1 (zapI (plT 66 bs) i).length (bv (zapI (plT 66 bs) i)), own v20 1 (zapI (plT 72 bs) i).length (bv (zapI (plT 72 bs) i)), own v18 1 (zapI (plT 82 bs) i).length (bv (zapI (plT 82 bs) i)), own v16 1 bs.length (bv bs), blk b2 [bv k] [32] 23, rd v 1 bs.length c (bv bs), glb 1]) (fun i => (6 + bs.length) - i) 0 ⟨Nat.zero_le _, hE.sel [1, 2, 4, 5, 6, 7, 8, 9, 12, 44] rfl, hM⟩ ?_
    clear hE hM a; rintro i a w11 ⟨hi, hE, hM⟩
    refine wp_seq_k (fun K10 hK10 => ?_)
    refine wp_seq_k (fun K11 hK11 => ?_)
    refine wp_plain [true, true, true, true] rfl rfl ?_
    refine s_move hE rfl rfl ?_; clear hE a; intro a hE
    refine s_move hE rfl rfl ?_; clear hE a; intro a hE
    refine s_len hE rfl Tryd.underlying74 (own_slice (hM.get 5 rfl)) rfl ?_; clear hE a; intro a hE
    replace hE := hE.cast 47 rfl (show _ = Value.int .i64 ((6 + bs.length : Nat) : Int) from (congrArg (fun n : Nat => Value.int .i64 (n : Int)) ((zapI_len (by rw [plT_len]; omega)).trans (plT_len ..))))
    refine s_bin hE rfl rfl bin_lss rfl ?_; clear hE a; intro a hE
    refine q_nil ?_
    replace hE : Env a 104 [(1, _), (2, _), (4, _), (5, _), (6, _), (7, _), (8, _), (9, _), (12, _), (44, _), (48, _)] := hE.sel [1, 2, 4, 5, 6, 7, 8, 9, 12, 44, 48] rfl
    refine hK11 _ _ ?_
    refine hE.split 48 rfl (fun hb48 hE' => ?_) (fun hb48 hE' => ?_)
    · replace hE := hE'; clear hE'
      replace hb48 := of_decide_eq_true hb48
      replace hb48 : i < (6 + bs.length) := by omega
      refine wp_cond_true (hE.eval rfl) ?_
      refine wp_skip ?_
      refine hK10 _ _ ?_
      refine wp_seq_k (fun K12 hK12 => ?_)
      refine wp_block ?_
      refine wp_plain [true, true, true, true, true, true, true, false, true, false, true, false] rfl rfl ?_
      refine s_move hE rfl rfl ?_; clear hE a; intro a hE
      refine s_move hE rfl rfl ?_; clear hE a; intro a hE
      refine s_move hE rfl rfl ?_; clear hE a; intro a hE
      refine s_move hE rfl rfl ?_; clear hE a; intro a hE
      refine s_move hE rfl rfl ?_; clear hE a; intro a hE
      refine s_move hE rfl rfl ?_; clear hE a; intro a hE
      refine s_indexOwn (j := i) hE rfl (hM.get 5 rfl) rfl slt74 (by first | rfl | omega) (by have hl_ : (zapI (plT 82 bs) i).length = 6 + bs.length := ((zapI_len (by rw [plT_len]; omega)).trans (plT_len ..)); first | omega | (rw [bv_length]; omega) | (simp; omega)) rfl ?_; clear hE a; intro a hE hc57
      replace hM : Mem _ _ w11 [_, _, _, _, _, _, _, _, _, _] := hM.pick [5, 0, 1, 2, 3, 4, 6, 7, 8, 9] rfl
      refine s_storeOwn (vs := [_]) hE rfl rfl hM rfl sz5 rfl (one1 rfl) (by have hl_ : (zapI (plT 82 bs) i).length = 6 + bs.length := ((zapI_len (by rw [plT_len]; omega)).trans (plT_len ..)); first | omega | (simp; omega)) (by have hl_ : (zapI (plT 82 bs) i).length = 6 + bs.length := ((zapI_len (by rw [plT_len]; omega)).trans (plT_len ..)); first | omega | (simp; omega)) (by intro X h; cases h) ?_; intro w12 hM'; clear hM; have hM := hM'; clear hM'
      replace hM := Mem.ownSet (p := zapI (plT 82 bs) i) (j := i) (b := 0) hM (by have hl_ : (zapI (plT 82 bs) i).length = 6 + bs.length := ((zapI_len (by rw [plT_len]; omega)).trans (plT_len ..)); first | omega | (rw [bv_length]; omega) | (simp; omega))
      refine s_indexOwn (j := i) hE rfl (hM.get 5 rfl) rfl slt74 (by first | rfl | omega) (by have hl_ : (zapI (plT 72 bs) i).length = 6 + bs.length := ((zapI_len (by rw [plT_len]; omega)).trans (plT_len ..)); first | omega | (rw [bv_length]; omega) | (simp; omega)) rfl ?_; clear hE a; intro a hE hc58
      replace hM : Mem _ _ w12 [_, _, _, _, _, _, _, _, _, _] := hM.pick [5, 0, 1, 2, 3, 4, 6, 7, 8, 9] rfl
      refine s_storeOwn (vs := [_]) hE rfl rfl hM rfl sz5 rfl (one1 rfl) (by have hl_ : (zapI (plT 72 bs) i).length = 6 + bs.length := ((zapI_len (by rw [plT_len]; omega)).trans (plT_len ..)); first | omega | (simp; omega)) (by have hl_ : (zapI (plT 72 bs) i).length = 6 + bs.length := ((zapI_len (by rw [plT_len]; omega)).trans (plT_len ..)); first | omega | (simp; omega)) (by intro X h; cases h) ?_; intro w13 hM'; clear hM; have hM := hM'; clear hM'
      replace hM := Mem.ownSet (p := zapI (plT 72 bs) i) (j := i) (b := 0) hM (by have hl_ : (zapI (plT 72 bs) i).length = 6 + bs.length := ((zapI_len (by rw [plT_len]; omega)).trans (plT_len ..)); first | omega | (rw [bv_length]; omega) | (simp; omega))
      refine s_indexOwn (j := i) hE rfl (hM.get 5 rfl) rfl slt74 (by first | rfl | omega) (by have hl_ : (zapI (plT 66 bs) i).length = 6 + bs.length := ((zapI_len (by rw [plT_len]; omega)).trans (plT_len ..)); first | omega | (rw [bv_length]; omega) | (simp; omega)) rfl ?_; clear hE a; intro a hE hc59
      replace hM : Mem _ _ w13 [_, _, _, _, _, _, _, _, _, _] := hM.pick [5, 0, 1, 2, 3, 4, 6, 7, 8, 9] rfl
      refine s_storeOwn (vs := [_]) hE rfl rfl hM rfl sz5 rfl (one1 rfl) (by have hl_ : (zapI (plT 66 bs) i).length = 6 + bs.length := ((zapI_len (by rw [plT_len]; omega)).trans (plT_len ..)); first | omega | (simp; omega)) (by have hl_ : (zapI (plT 66 bs) i).length = 6 + bs.length := ((zapI_len (by rw [plT_len]; omega)).trans (plT_len ..)); first | omega | (simp; omega)) (by intro X h; cases h) ?_; intro w14 hM'; clear hM; have hM := hM'; clear hM'
      replace hM := Mem.ownSet (p := zapI (plT 66 bs) i) (j := i) (b := 0) hM (by have hl_ : (zapI (plT 66 bs) i).length = 6 + bs.length := ((zapI_len (by rw [plT_len]; omega)).trans (plT_len ..)); first | omega | (rw [bv_length]; omega) | (simp; omega))
      refine q_nil ?_
      replace hE : Env a 104 [(1, _), (2, _), (4, _), (5, _), (6, _), (7, _), (8, _), (9, _), (12, _), (44, _), (48, _)] := hE.sel [1, 2, 4, 5, 6, 7, 8, 9, 12, 44, 48] rfl
      refine q_block_n ?_
      refine hK12 _ _ ?_
      refine wp_plain [true, true, true] rfl rfl ?_
      refine s_move hE rfl rfl ?_; clear hE a; intro a hE
      refine s_bin hE rfl rfl (show Bin _ _ _ _ _ (.int .i64 ((i + 1 : Nat) : Int)) from bin_add (by rw [wrap_i64 (by omega) (by omega)]; omega)) rfl ?_; clear hE a; intro a hE
      refine s_assign hE rfl rfl ?_; clear hE a; intro a hE
      refine q_nil ?_
      replace hE : Env a 104 [(1, _), (2, _), (4, _), (5, _), (6, _), (7, _), (8, _), (9, _), (12, _), (44, _), (48, _)] := hE.sel [1, 2, 4, 5, 6, 7, 8, 9, 12, 44, 48] rfl
      replace hE := hE.cast 9 rfl (show _ = Value.int .i64 (((i + 1) : Nat) : Int) from (congrArg _ (by omega)))
      replace hM : Mem _ _ w14 [_, _, _, _, _, _, _, _, _, _] := hM.pick [2, 0, 1, 3, 4, 5, 6, 7, 8, 9] rfl
      replace hM := Mem.ownB (p := (zapI (plT 82 bs) i).set i 0) (q := zapI (plT 82 bs) (i + 1)) hM (zapI_set (by rw [plT_len]; omega))
      replace hM : Mem _ _ w14 [_, _, _, _, _, _, _, _, _, _] := hM.pick [2, 0, 1, 3, 4, 5, 6, 7, 8, 9] rfl
      replace hM := Mem.ownB (p := (zapI (plT 72 bs) i).set i 0) (q := zapI (plT 72 bs) (i + 1)) hM (zapI_set (by rw [plT_len]; omega))
      replace hM : Mem _ _ w14 [_, _, _, _, _, _, _, _, _, _] := hM.pick [2, 0, 1, 3, 4, 5, 6, 7, 8, 9] rfl
      replace hM := Mem.ownB (p := (zapI (plT 66 bs) i).set i 0) (q := zapI (plT 66 bs) (i + 1)) hM (zapI_set (by rw [plT_len]; omega))
      replace hM : Mem _ _ w14 [_, _, _, _, _, _, _, _, _, _] := hM.pick [0, 1, 2, 3, 4, 5, 6, 7, 8, 9] rfl
      replace hM : Mem _ _ w14 [_, _, _, _, _, _, _, _, _, _] := hM.pick [3, 4, 5, 0, 1, 2, 6, 7, 8, 9] rfl
      exact ⟨i + 1, ⟨by omega, hE.sel [1, 2, 4, 5, 6, 7, 8, 9, 12, 44] rfl, hM⟩, by omega⟩
    · replace hE := hE'; clear hE'
      replace hb48 := of_decide_eq_false hb48
      obtain rfl : (6 + bs.length) = i := by omega
      refine wp_cond_false (hE.eval rfl) ?_
      refine wp_exit ?_
      refine q_then_e ?_
      refine q_then_e ?_
      refine q_block_x ?_
      refine hK8 _ _ ?_
      refine wp_seq_k (fun K12 hK12 => ?_)
      refine wp_drawnM hM (by kernel_rfl) (fun _ => False) [(0, true), (1, true), (3, true), (4, true), (2, false), (5, false), (6, true), (7, true), (8, true), (9, true), (11, true), (12, true), (10, false), (13, false), (14, true), (15, true), (16, true), (17, true), (18, true), (20, true), (21, true), (19, false), (22, false), (23, true), (24, true), (25, true), (26, true), (27, true), (29, true), (30, true), (28, false), (31, false), (32, true), (33, true), (34, true), (35, true), (36, true), (37, true), (38, true), (39, true), (40, true), (41, true), (42, false), (43, true), (44, true)] [(2, [(5, 2), (6, 2), (7, 5), (8, 7), (9, 7), (11, 7), (12, 7), (10, 8), (13, 10), (14, 10), (15, 14), (16, 13), (17, 16), (18, 16), (20, 16), (21, 16), (19, 16), (22, 16), (23, 16), (24, 16), (25, 24), (26, 25), (27, 25), (29, 25), (30, 25), (28, 25), (31, 25), (32, 25), (33, 32), (34, 33), (35, 34), (36, 34), (37, 34), (38, 34), (39, 34), (40, 34), (41, 40), (42, 41), (43, 41), (44, 2)]), (5, [(6, 5), (7, 5), (8, 7), (9, 7), (11, 7), (12, 7), (10, 8), (13, 10), (14, 10), (15, 14), (16, 13), (17, 16), (18, 16), (20, 16), (21, 16), (19, 16), (22, 16), (23, 16), (24, 16), (25, 24), (26, 25), (27, 25), (29, 25), (30, 25), (28, 25), (31, 25), (32, 25), (33, 32), (34, 33), (35, 34), (36, 34), (37, 34), (38, 34), (39, 34), (40, 34), (41, 40), (42, 41), (43, 41), (44, 5)]), (10, [(13, 10), (14, 10), (15, 14), (16, 13), (17, 16), (18, 16), (20, 16), (21, 16), (19, 16), (22, 16), (23, 16), (24, 16), (25, 24), (26, 25), (27, 25), (29, 25), (30, 25), (28, 25), (31, 25), (32, 25), (33, 32), (34, 33), (35, 34), (36, 34), (37, 34), (38, 34), (39, 34), (40, 34), (41, 40), (42, 41), (43, 41), (44, 10)]), (13, [(14, 13), (15, 14), (16, 13), (17, 16), (18, 16), (20, 16), (21, 16), (19, 16), (22, 16), (23, 16), (24, 16), (25, 24), (26, 25), (27, 25), (29, 25), (30, 25), (28, 25), (31, 25), (32, 25), (33, 32), (34, 33), (35, 34), (36, 34), (37, 34), (38, 34), (39, 34), (40, 34), (41, 40), (42, 41), (43, 41), (44, 13)]), (19, [(22, 19), (23, 19), (24, 23), (25, 24), (26, 25), (27, 25), (29, 25), (30, 25), (28, 25), (31, 25), (32, 25), (33, 32), (34, 33), (35, 34), (36, 34), (37, 34), (38, 34), (39, 34), (40, 34), (41, 40), (42, 41), (43, 41), (44, 19)]), (22, [(23, 22), (24, 23), (25, 22), (26, 25), (27, 25), (29, 25), (30, 25), (28, 25), (31, 25), (32, 25), (33, 32), (34, 33), (35, 34), (36, 34), (37, 34), (38, 34), (39, 34), (40, 34), (41, 40), (42, 41), (43, 41), (44, 22)]), (28, [(31, 28), (32, 28), (33, 32), (34, 33), (35, 34), (36, 34), (37, 34), (38, 34), (39, 34), (40, 34), (41, 40), (42, 41), (43, 41), (44, 28)]), (31, [(32, 31), (33, 32), (34, 31), (35, 34), (36, 34), (37, 34), (38, 34), (39, 34), (40, 34), (41, 40), (42, 41), (43, 41), (44, 31)]), (42, [(43, 42), (44, 42)])] (by kernel_rfl) rfl ?_
      intro w12 hM' hww12; clear hM; have hM := hM'; clear hM'
      refine s_loadN hE rfl (hM.get 7 rfl) row23 rfl (by intro X h; cases h; simp) rfl ?_; clear hE a; intro a hE
      refine s_move hE rfl rfl ?_; clear hE a; intro a hE
      refine s_loadN hE rfl (hM.get 7 rfl) row23 rfl (by intro X h; cases h; simp) rfl ?_; clear hE a; intro a hE
      refine s_move hE rfl rfl ?_; clear hE a; intro a hE
      obtain ⟨cq4, hq4⟩ := own_rd (hM.get 6 rfl)
      refine s_call hE rfl Tryd.call36 (tlabel_c k _ bs _ _ (hM.get 9 rfl) hl_k hq4 (by have hl_0 : k.length = 32 := hl_k; first | omega | assumption | (simp; done) | (simp; omega) | decide)) rfl ?_
      rintro e w13 ⟨rfl, hN⟩
      refine ⟨_, rfl, hN.sta0 _, ?_⟩; clear hE a; intro a hE
      replace hM : Mem _ _ w13 [_, _, _, _, _, _, _, _, _, _] := hM.call0 hN trivial; clear hN
      refine s_call hE rfl Tryd.call37 (rlabel_c k _ bs _ _ hl_k (hM.get 8 rfl) (by have hl_0 : k.length = 32 := hl_k; first | omega | assumption | (simp; done) | (simp; omega) | decide)) rfl ?_
      rintro e w14 ⟨rfl, hN⟩
      refine ⟨_, rfl, hN.sta0 _, ?_⟩; clear hE a; intro a hE
      replace hM : Mem _ _ w14 [_, _, _, _, _, _, _, _, _, _] := hM.call0 hN trivial; clear hN
      refine s_bin hE rfl rfl (eqa34 (by first | simp | assumption) (by first | simp | assumption)).1 rfl ?_; clear hE a; intro a hE
      refine s_move hE rfl rfl ?_; clear hE a; intro a hE
      replace hE := hE.cast 67 rfl (show _ = Value.bool true from (congrArg Value.bool (by first | (with_reducible exact decide_eq_true rfl) | exact decide_eq_true (by omega) | (rw [decide_eq_true (by omega)]; rfl) | (rw [decide_eq_false (by omega)]; rfl) | rfl | decide | (simp; done) | (simp; omega) | (simp [*]; done))))
      refine g_yes hE rfl rfl ?_
      refine s_loadN hE rfl (hM.get 7 rfl) row23 rfl (by intro X h; cases h; simp) rfl ?_; clear hE a; intro a hE
      refine g_yes hE rfl rfl ?_
      refine s_move hE rfl rfl ?_; clear hE a; intro a hE
      refine g_yes hE rfl rfl ?_
      refine s_loadN hE rfl (hM.get 7 rfl) row23 rfl (by intro X h; cases h; simp) rfl ?_; clear hE a; intro a hE
      refine g_yes hE rfl rfl ?_
      refine s_move hE rfl rfl ?_; clear hE a; intro a hE
      refine g_yes hE rfl rfl ?_
      obtain ⟨cq5, hq5⟩ := own_rd (hM.get 6 rfl)
      refine s_call hE rfl Tryd.call38 (thead_c k _ bs _ _ (hM.get 9 rfl) hl_k hq5 (by have hl_0 : k.length = 32 := hl_k; first | omega | assumption | (simp; done) | (simp; omega) | decide)) rfl ?_
      rintro e w15 ⟨rfl, hN⟩
      refine ⟨_, rfl, hN.sta0 _, ?_⟩; clear hE a; intro a hE
      replace hM : Mem _ _ w15 [_, _, _, _, _, _, _, _, _, _] := hM.call0 hN trivial; clear hN
      refine g_yes hE rfl rfl ?_
      refine s_call hE rfl Tryd.call39 (rhead_c k _ bs _ _ hl_k (hM.get 8 rfl) (by have hl_0 : k.length = 32 := hl_k; first | omega | assumption | (simp; done) | (simp; omega) | decide)) rfl ?_
      rintro e w16 ⟨rfl, hN⟩
      refine ⟨_, rfl, hN.sta0 _, ?_⟩; clear hE a; intro a hE
      replace hM : Mem _ _ w16 [_, _, _, _, _, _, _, _, _, _] := hM.call0 hN trivial; clear hN
      refine g_yes hE rfl rfl ?_
      refine s_bin hE rfl rfl (eqa34 (by first | simp | assumption) (by first | simp | assumption)).1 rfl ?_; clear hE a; intro a hE
      refine s_pickt hE rfl rfl rfl ?_; clear hE a; intro a hE
      refine s_move hE rfl rfl ?_; clear hE a; intro a hE
      replace hE := hE.cast 76 rfl (show _ = Value.bool true from (congrArg Value.bool (by first | (with_reducible exact decide_eq_true rfl) | exact decide_eq_true (by omega) | (rw [decide_eq_true (by omega)]; rfl) | (rw [decide_eq_false (by omega)]; rfl) | rfl | decide | (simp; done) | (simp; omega) | (simp [*]; done))))
      refine g_yes hE rfl rfl ?_
      refine s_loadN hE rfl (hM.get 7 rfl) row23 rfl (by intro X h; cases h; simp) rfl ?_; clear hE a; intro a hE
      refine g_yes hE rfl rfl ?_
      refine s_move hE rfl rfl ?_; clear hE a; intro a hE
      refine g_yes hE rfl rfl ?_
      refine s_loadN hE rfl (hM.get 7 rfl) row23 rfl (by intro X h; cases h; simp) rfl ?_; clear hE a; intro a hE
      refine g_yes hE rfl rfl ?_
      refine s_move hE rfl rfl ?_; clear hE a; intro a hE
      refine g_yes hE rfl rfl ?_
      obtain ⟨cq6, hq6⟩ := own_rd (hM.get 6 rfl)
      refine s_call hE rfl Tryd.call40 (tbody_c k _ bs _ _ (hM.get 9 rfl) hl_k hq6 (by have hl_0 : k.length = 32 := hl_k; first | omega | assumption | (simp; done) | (simp; omega) | decide)) rfl ?_
      rintro e w17 ⟨rfl, hN⟩
      refine ⟨_, rfl, hN.sta0 _, ?_⟩; clear hE a; intro a hE
      replace hM : Mem _ _ w17 [_, _, _, _, _, _, _, _, _, _] := hM.call0 hN trivial; clear hN
      refine g_yes hE rfl rfl ?_
      refine s_call hE rfl Tryd.call41 (rbody_c k _ bs _ _ hl_k (hM.get 8 rfl) (by have hl_0 : k.length = 32 := hl_k; first | omega | assumption | (simp; done) | (simp; omega) | decide)) rfl ?_
      rintro e w18 ⟨rfl, hN⟩
      refine ⟨_, rfl, hN.sta0 _, ?_⟩; clear hE a; intro a hE
      replace hM : Mem _ _ w18 [_, _, _, _, _, _, _, _, _, _] := hM.call0 hN trivial; clear hN
      refine g_yes hE rfl rfl ?_
      refine s_bin hE rfl rfl (eqa34 (by first | simp | assumption) (by first | simp | assumption)).1 rfl ?_; clear hE a; intro a hE
      refine s_pickt hE rfl rfl rfl ?_; clear hE a; intro a hE
      refine s_move hE rfl rfl ?_; clear hE a; intro a hE
      replace hE := hE.cast 85 rfl (show _ = Value.bool true from (congrArg Value.bool (by first | (with_reducible exact decide_eq_true rfl) | exact decide_eq_true (by omega) | (rw [decide_eq_true (by omega)]; rfl) | (rw [decide_eq_false (by omega)]; rfl) | rfl | decide | (simp; done) | (simp; omega) | (simp [*]; done))))
      refine g_yes hE rfl rfl ?_
      refine s_loadN hE rfl (hM.get 7 rfl) row23 rfl (by intro X h; cases h; simp) rfl ?_; clear hE a; intro a hE
      refine g_yes hE rfl rfl ?_
      refine s_move hE rfl rfl ?_; clear hE a; intro a hE
      refine g_yes hE rfl rfl ?_
      refine s_loadN hE rfl (hM.get 7 rfl) row23 rfl (by intro X h; cases h; simp) rfl ?_; clear hE a; intro a hE
      refine g_yes hE rfl rfl ?_
      refine s_move hE rfl rfl ?_; clear hE a; intro a hE
      refine g_yes hE rfl rfl ?_
      obtain ⟨cq7, hq7⟩ := own_rd (hM.get 6 rfl)
      refine s_call hE rfl Tryd.call42 (tof_c k _ bs _ _ (hM.get 9 rfl) hl_k hq7 (by have hl_0 : k.length = 32 := hl_k; first | omega | assumption | (simp; done) | (simp; omega) | decide)) rfl ?_
      rintro e w19 ⟨rfl, hN⟩
      refine ⟨_, rfl, hN.sta0 _, ?_⟩; clear hE a; intro a hE
      replace hM : Mem _ _ w19 [_, _, _, _, _, _, _, _, _, _] := hM.call0 hN trivial; clear hN
      refine g_yes hE rfl rfl ?_
      refine s_call hE rfl Tryd.call43 (rtag_c k _ bs _ _ hl_k (hM.get 8 rfl) (by have hl_0 : k.length = 32 := hl_k; first | omega | assumption | (simp; done) | (simp; omega) | decide)) rfl ?_
      rintro e w20 ⟨rfl, hN⟩
      refine ⟨_, rfl, hN.sta0 _, ?_⟩; clear hE a; intro a hE
      replace hM : Mem _ _ w20 [_, _, _, _, _, _, _, _, _, _] := hM.call0 hN trivial; clear hN
      refine g_yes hE rfl rfl ?_
      refine s_bin hE rfl rfl (eqa34 (by first | simp | assumption) (by first | simp | assumption)).1 rfl ?_; clear hE a; intro a hE
      refine s_pickt hE rfl rfl rfl ?_; clear hE a; intro a hE
      refine s_move hE rfl rfl ?_; clear hE a; intro a hE
      replace hE := hE.cast 94 rfl (show _ = Value.bool true from (congrArg Value.bool (by first | (with_reducible exact decide_eq_true rfl) | exact decide_eq_true (by omega) | (rw [decide_eq_true (by omega)]; rfl) | (rw [decide_eq_false (by omega)]; rfl) | rfl | decide | (simp; done) | (simp; omega) | (simp [*]; done))))
      refine g_yes hE rfl rfl ?_
      refine s_move hE rfl rfl ?_; clear hE a; intro a hE
      refine g_yes hE rfl rfl ?_
      obtain ⟨cs96, hs96⟩ := own_rd (hM.get 6 rfl)
      refine s_toStr hE rfl Tryd.underlying74 Tryd.underlying5 Tryd.underlying9 hs96 (by intro X h; cases h; simp) rfl ?_; clear hE a; intro a hE
      refine g_yes hE rfl rfl ?_
      refine s_move hE rfl rfl ?_; clear hE a; intro a hE
      refine g_yes hE rfl rfl ?_
      refine s_toStr hE rfl Tryd.underlying74 Tryd.underlying5 Tryd.underlying9 (hM.get 8 rfl) (by intro X h; cases h; simp) rfl ?_; clear hE a; intro a hE
      refine g_yes hE rfl rfl ?_
      refine s_bin hE rfl rfl bins_str.1 rfl ?_; clear hE a; intro a hE
      refine s_pickt hE rfl rfl rfl ?_; clear hE a; intro a hE
      refine s_move hE rfl rfl ?_; clear hE a; intro a hE
      replace hE := hE.cast 101 rfl (show _ = Value.bool true from (congrArg Value.bool (by first | (with_reducible exact decide_eq_true rfl) | exact decide_eq_true (by omega) | (rw [decide_eq_true (by omega)]; rfl) | (rw [decide_eq_false (by omega)]; rfl) | rfl | decide | (simp; done) | (simp; omega) | (simp [*]; done))))
      refine g_yes hE rfl rfl ?_
      refine s_call hE rfl Tryd.call31 (bawake17_c _) rfl ?_
      rintro e w21 ⟨rfl, hN⟩
      refine ⟨_, rfl, hN.sta0 _, ?_⟩; clear hE a; intro a hE
      replace hM : Mem _ _ w21 [_, _, _, _, _, _, _, _, _, _] := hM.call0 hN trivial; clear hN
      refine s_pickt hE rfl rfl rfl ?_; clear hE a; intro a hE
      refine s_assign hE rfl rfl ?_; clear hE a; intro a hE
      refine q_nil ?_
      replace hE : Env a 104 [(1, _), (4, _), (5, _), (6, _), (7, _), (8, _), (9, _), (12, _), (44, _), (48, _)] := hE.sel [1, 4, 5, 6, 7, 8, 9, 12, 44, 48] rfl
      refine hK12 _ _ ?_
      refine wp_ret ?_
      refine f_ret1 hE rfl rfl ?_
      exact ⟨(by first | rfl | (simp; done)), hM.pick [] rfl⟩
set_option maxRecDepth 100000 in
theorem tagsTexts_lifted (os : Os) (started : os.Started) (H : Type) (enc : TypeId × Value → H) :
    ReturnsInHanded {} Tryd.checked os 9 .any (fun w args => (Rows.tagsTextsSpec.pre enc Tryd.prog Tryd.f9 [] false w args ∧ laidMetH Tryd.prog Rows.tagsTextsRow.laid w) ∧ sizedMet enc Tryd.prog Tryd.f9 (OpenSpec.ofChange Rows.tagsTextsSpec) false w args) (Rows.tagsTextsSpec.post enc Tryd.prog Tryd.f9 false true false false) := by
  refine law_liftedL (C := Tryd.checked) (fn := Tryd.f9) (l := Rows.tagsTextsRow.laid) (by kernel_rfl) started (by kernel_rfl) Tryd.func9 rfl (fun ds hl => ?_) rfl Tryd.underlying4 (by kernel_rfl) (of_decide_eq_true (by kernel_rfl)) (by kernel_rfl)
    (ChangeSpec.witness_shaped (enc := enc) (C := Tryd.checked) (os := os) (X := fun w _ => laidMetH Tryd.prog Rows.tagsTextsRow.laid w) false (World.laidAll Tryd.prog os Rows.tagsTextsRow.laid) #[.agg (bv (List.replicate 32 0)).toArray, .slice none 0 0] 8 (World.laidAll_os _ _ _) (World.shaped_of_ZipB (by kernel_rfl) (by kernel_rfl)) (by kernel_rfl) (by kernel_rfl) (by kernel_rfl) (by rw [MakeChecks.laidMetH_plain _ _ _ (by kernel_rfl)]; exact laidMet_laidAll _ (by kernel_rfl) (by kernel_rfl))) ?_
  · rw [Tryd.params9] at hl
    match ds, hl with
    | [_, _], _ => rfl
  · intro W base args ds ps hval hA hw hL
    have hG := glb_of_laid (P := Tryd.prog) (g := 1) (t := 146) (e := 117) (by kernel_rfl) (by kernel_rfl) Tryd.underlying146 Tryd.underlying117 (by kernel_rfl) (by kernel_rfl) (by kernel_rfl) (show laidMet Tryd.prog (_ :: _) W from hL)
    rw [Tryd.params9] at hA hval hw
    obtain ⟨v0, vs0, d0, ds0, p0, q0, hargs, rfl, rfl, h0, r0⟩ := trodAll_cons hA
    obtain ⟨v1, vs1, d1, ds1, p1, q1, rfl, rfl, rfl, h1, r1⟩ := trodAll_cons r0
    obtain ⟨rfl, rfl, rfl⟩ := trodAll_nil r1
    obtain rfl : args = #[v0, v1] := by cases args; simp_all
    obtain ⟨a0, rfl, ha0⟩ := arg_arr8 Tryd.underlying23 Tryd.underlying5 (by kernel_rfl) (by kernel_rfl) (hval 0 23 v0 rfl rfl) h0 (fun m hm => hw m (by simp only [DataW.weightsEach, List.mem_append]; exact .inl hm))
    obtain ⟨bs1, c1, hr1, hb1⟩ := arg_bytes Tryd.underlying74 Tryd.underlying5 (by kernel_rfl) (by kernel_rfl) (hval 1 74 v1 rfl rfl) h1 (fun m hm => hw m (by simp only [DataW.weightsEach, List.mem_append]; exact .inr (.inl hm)))
    exact tagsTexts_c a0 v1 bs1 c1 W hG ha0 hr1

/-- The row's statement. -/
theorem tagsTexts_row : Rows.TagsTextsSaid :=
  OpenClaim.holds_of_wide 9 Tryd.f9 rfl rfl rfl rfl rfl rfl rfl ⟨rfl, rfl, rfl, rfl, rfl⟩ rfl rfl rfl rfl rfl (by kernel_rfl) Tryd.func9 (by kernel_rfl)
    (of_decide_eq_true (by kernel_rfl)) (by unfold Func.isWrapper; first | (rw [if_pos (by decide +kernel)]; kernel_rfl) | (rw [if_neg (by decide +kernel)]; exact ⟨rfl, rfl⟩))
    (fun os started H enc _ => tagsTexts_lifted os started H enc)

/-- The statement: the row, its listed variable tied to the program's text. -/
theorem tagsTexts_holds : Rows.TagsTextsCardSaid :=
  Claim7.holds_tied_plain_at .later [] [.data] true (true, "9a4276e042ebfbe6f5d1b1265f391c6ad5393d4175854f4cb6c0d5f7baaceeff") false
    tagsTexts_row (fun _ h => by cases h) (by kernel_rfl) (fun _ h => by cases h) tagsTexts_row_tie rfl ⟨rfl, rfl⟩ (by kernel_rfl) rfl
    (fun f fn hf hfn => by
      obtain rfl : f = 9 := Option.some.inj ((show Tryd.prog.funcNamed "casemate/casematelaw17.TagsTexts" = some 9 by kernel_rfl).symm.trans hf) |>.symm
      obtain rfl : fn = Tryd.f9 := (Option.some.inj (Tryd.func9.symm.trans hfn)).symm
      exact ⟨by kernel_rfl, fun j t ht => by
        rw [Tryd.params9] at ht
        have h : t ∈ [23, 74] := by
          rcases j with _ | _ | j
          · simp at ht; simp [ht]
          · simp at ht; simp [ht]
          · simp at ht
        simp only [List.mem_cons, List.not_mem_nil, or_false] at h
        rcases h with rfl | rfl
        · exact (show Tryd.prog.wantsStandIn 23 = false by kernel_rfl)
        · exact (show Tryd.prog.wantsStandIn 74 = false by kernel_rfl)⟩)
    (by kernel_rfl)
#print axioms tagsTexts_holds
end Go.Proofs.YtbljddjfcmbnpaaDoor
