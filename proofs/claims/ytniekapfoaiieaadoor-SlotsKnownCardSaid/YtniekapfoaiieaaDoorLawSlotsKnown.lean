/- SlotsKnown of casematelaw25 returns true. No condition. -/
import Derived.Test.YtniekapfoaiieaaDoorLq
import Derived.Test.YtniekapfoaiieaaDoorTie
import Derived.Test.YtniekapfoaiieaaDoorCards
set_option linter.unusedSimpArgs false
set_option linter.unusedVariables false
namespace Go.Proofs.YtniekapfoaiieaaDoor
open Go Go.Kx
open Go.ChangeShapes Go.WideShapes Go.ChangeAt Go.RowKit

set_option maxRecDepth 20000 in
set_option maxHeartbeats 4000000 in
theorem slotsKnown_c  (w : World) (hG : (glb 1).holds w) (hT : tabP.holds w) : Calls Tryd.prog 10 #[] w fun e w' => e = .returned (.bool true) ∧ Mem w [] w' [] := by
  have hM : Mem w [] w [glb 1, tabP] := Mem.startR w (fun g hg => by
    simp only [List.mem_cons, List.not_mem_nil, or_false] at hg
    rcases hg with rfl | rfl
    · exact ⟨hG, rfl⟩
    · exact ⟨hT, rfl⟩)
  refine f_enter 196 Tryd.func10 rfl rfl rfl ?_
  intro a hE
  replace hE : Env a 196 [] := hE
  refine wp_seq_k (fun K1 hK1 => ?_)
  refine wp_plain [true] rfl rfl ?_
  refine s_assign hE rfl rfl ?_; clear hE a; intro a hE
  refine q_nil ?_
  refine hK1 _ _ ?_
  refine wp_seq_k (fun K2 hK2 => ?_)
  refine wp_plain [false, true, true, true, false, false, true] rfl rfl ?_
  refine s_call hE rfl Tryd.call34 (two25_c  _ (hM.get 0 rfl) (hM.get 1 rfl)) rfl ?_
  rintro e w1 ⟨rfl, hN⟩
  refine ⟨_, rfl, trivial, ?_⟩; clear hE a; intro a hE
  replace hM : Mem _ _ w1 [_, _] := hM.call0 hN trivial; clear hN
  refine s_move hE rfl rfl ?_; clear hE a; intro a hE
  refine s_extract hE rfl rfl rfl ?_; clear hE a; intro a hE
  refine s_extract hE rfl rfl rfl ?_; clear hE a; intro a hE
  refine s_alloc [1, 1, 1, 1, 32, 32, 1, 1, 32, 32, 1, 1, 16, 32, 32, 1, 1, 16, 32, 32, 1, 1, 16, 32, 32, 1, 1, 16, 32, 32] hE hM zeroL62 rfl rfl ?_; clear hE a; intro a b1 w2 hE hM'
  clear hM; have hM := hM'; clear hM'
  have hsl24_4 : h2T.v0.2.2.1.length = 32 := h2T_ok.v0.2.1
  have hsl24_5 : h2T.v0.2.2.2.length = 32 := h2T_ok.v0.2.2
  have hsl24_8 : h2T.v1.2.2.1.length = 32 := h2T_ok.v1.2.1
  have hsl24_9 : h2T.v1.2.2.2.length = 32 := h2T_ok.v1.2.2
  have hsl24_12 : h2T.s0.2.2.1.length = 16 := h2T_ok.s0.2.1
  have hsl24_13 : h2T.s0.2.2.2.1.length = 32 := h2T_ok.s0.2.2.1
  have hsl24_14 : h2T.s0.2.2.2.2.length = 32 := h2T_ok.s0.2.2.2
  have hsl24_17 : h2T.s1.2.2.1.length = 16 := h2T_ok.s1.2.1
  have hsl24_18 : h2T.s1.2.2.2.1.length = 32 := h2T_ok.s1.2.2.1
  have hsl24_19 : h2T.s1.2.2.2.2.length = 32 := h2T_ok.s1.2.2.2
  have hsl24_22 : h2T.s2.2.2.1.length = 16 := h2T_ok.s2.2.1
  have hsl24_23 : h2T.s2.2.2.2.1.length = 32 := h2T_ok.s2.2.2.1
  have hsl24_24 : h2T.s2.2.2.2.2.length = 32 := h2T_ok.s2.2.2.2
  have hsl24_27 : h2T.s3.2.2.1.length = 16 := h2T_ok.s3.2.1
  have hsl24_28 : h2T.s3.2.2.2.1.length = 32 := h2T_ok.s3.2.2.1
  have hsl24_29 : h2T.s3.2.2.2.2.length = 32 := h2T_ok.s3.2.2.2
  refine s_storeSegs 0 30 (vss := [[.int .i64 h2T.m], [.int .i64 h2T.r], [.bool h2T.v0.1], [.int .u64 ((h2T.v0.2.1 : Nat) : Int)], bv h2T.v0.2.2.1, bv h2T.v0.2.2.2, [.bool h2T.v1.1], [.int .u64 ((h2T.v1.2.1 : Nat) : Int)], bv h2T.v1.2.2.1, bv h2T.v1.2.2.2, [.bool h2T.s0.1], [.int .i64 h2T.s0.2.1], bv h2T.s0.2.2.1, bv h2T.s0.2.2.2.1, bv h2T.s0.2.2.2.2, [.bool h2T.s1.1], [.int .i64 h2T.s1.2.1], bv h2T.s1.2.2.1, bv h2T.s1.2.2.2.1, bv h2T.s1.2.2.2.2, [.bool h2T.s2.1], [.int .i64 h2T.s2.2.1], bv h2T.s2.2.2.1, bv h2T.s2.2.2.2.1, bv h2T.s2.2.2.2.2, [.bool h2T.s3.1], [.int .i64 h2T.s3.2.1], bv h2T.s3.2.2.1, bv h2T.s3.2.2.2.1, bv h2T.s3.2.2.2.2]) hE rfl rfl hM rfl sz62 (by simp only [List.take_succ_cons, List.take_zero, List.drop_zero, List.drop_succ_cons]; simp only [List.map_cons, List.map_nil, bv_length, List.length_cons, List.length_nil, List.length_replicate, hsl24_4, hsl24_5, hsl24_8, hsl24_9, hsl24_12, hsl24_13, hsl24_14, hsl24_17, hsl24_18, hsl24_19, hsl24_22, hsl24_23, hsl24_24, hsl24_27, hsl24_28, hsl24_29]) (by decide) rfl (one_fl ⟨one1 rfl, one1 rfl, one1 rfl, one1 rfl, bv_one _, bv_one _, one1 rfl, one1 rfl, bv_one _, bv_one _, one1 rfl, one1 rfl, bv_one _, bv_one _, bv_one _, one1 rfl, one1 rfl, bv_one _, bv_one _, bv_one _, one1 rfl, one1 rfl, bv_one _, bv_one _, bv_one _, one1 rfl, one1 rfl, bv_one _, bv_one _, bv_one _, trivial⟩) rfl (by intro X h; cases h) ?_; intro w3 hM'; clear hM; have hM := hM'; clear hM'
  try simp only [List.take_zero, List.take_succ_cons, List.drop_zero, List.drop_succ_cons, List.take_nil, List.drop_nil, List.nil_append, List.append_nil, List.cons_append] at hM
  refine s_assign hE rfl rfl ?_; clear hE a; intro a hE
  refine q_nil ?_
  replace hE : Env a 196 [(0, _), (1, _), (2, _)] := hE.sel [0, 1, 2] rfl
  refine hK2 _ _ ?_
  refine wp_seq_k (fun K3 hK3 => ?_)
  refine wp_plain [true, false, true] rfl rfl ?_
  refine s_loadN hE rfl (hM.get 0 rfl) row62 rfl (by intro X h; cases h) rfl ?_; clear hE a; intro a hE
  replace hE := hE.cast 35 rfl (show _ = Value.agg ([[.int .i64 h2T.m], [.int .i64 h2T.r], [.bool h2T.v0.1], [.int .u64 ((h2T.v0.2.1 : Nat) : Int)], bv h2T.v0.2.2.1, bv h2T.v0.2.2.2, [.bool h2T.v1.1], [.int .u64 ((h2T.v1.2.1 : Nat) : Int)], bv h2T.v1.2.2.1, bv h2T.v1.2.2.2, [.bool h2T.s0.1], [.int .i64 h2T.s0.2.1], bv h2T.s0.2.2.1, bv h2T.s0.2.2.2.1, bv h2T.s0.2.2.2.2, [.bool h2T.s1.1], [.int .i64 h2T.s1.2.1], bv h2T.s1.2.2.1, bv h2T.s1.2.2.2.1, bv h2T.s1.2.2.2.2, [.bool h2T.s2.1], [.int .i64 h2T.s2.2.1], bv h2T.s2.2.2.1, bv h2T.s2.2.2.2.1, bv h2T.s2.2.2.2.2, [.bool h2T.s3.1], [.int .i64 h2T.s3.2.1], bv h2T.s3.2.2.1, bv h2T.s3.2.2.2.1, bv h2T.s3.2.2.2.2] : List (List Value)).flatten.toArray from (by first | rfl | simp only [List.flatten_cons, List.flatten_nil, List.append_nil, List.append_assoc]))
  refine s_call hE rfl Tryd.call35 (used_c h2T _ h2T_ok) rfl ?_
  rintro e w4 ⟨v36_0, rfl, hN⟩
  refine ⟨_, rfl, trivial, ?_⟩; clear hE a; intro a hE
  replace hM : Mem _ _ w4 [_, _, _, _] := hM.call0 hN ⟨rfl, trivial⟩; clear hN
  refine s_assign hE rfl rfl ?_; clear hE a; intro a hE
  refine q_nil ?_
  replace hE : Env a 196 [(0, _), (1, _), (2, _), (3, _)] := hE.sel [0, 1, 2, 3] rfl
  refine hK3 _ _ ?_
  refine wp_seq_k (fun K4 hK4 => ?_)
  refine wp_seq_k (fun K5 hK5 => ?_)
  refine wp_plain [true, true, true, false, true, true, true, true, false, true, true, true, true, false, true, true, true, true, false, true, true, true, true, true, true, true, true, true, true, true, true, true, true, true, true, true, true, true] rfl rfl ?_
  refine s_move hE rfl rfl ?_; clear hE a; intro a hE
  refine s_not hE rfl rfl ?_; clear hE a; intro a hE
  refine s_move hE rfl rfl ?_; clear hE a; intro a hE
  replace hE := hE.cast 39 rfl (show _ = Value.bool false from (congrArg Value.bool (by first | (with_reducible rfl) | decide)))
  refine g_yes hE rfl rfl ?_
  refine s_call hE rfl Tryd.call28 (awake25_c  _ (hM.get 2 rfl) (hM.get 3 rfl)) rfl ?_
  rintro e w5 ⟨rfl, hN⟩
  refine ⟨_, rfl, trivial, ?_⟩; clear hE a; intro a hE
  replace hM : Mem _ _ w5 [_, _, _, _] := hM.call0 hN trivial; clear hN
  refine g_yes hE rfl rfl ?_
  refine s_not hE rfl rfl ?_; clear hE a; intro a hE
  replace hE := hE.cast 41 rfl (show _ = Value.bool false from rfl)
  refine s_pickf hE rfl rfl rfl ?_; clear hE a; intro a hE
  refine s_move hE rfl rfl ?_; clear hE a; intro a hE
  refine g_yes hE rfl rfl ?_
  refine s_loadN hE rfl (hM.get 1 rfl) row62 rfl (by intro X h; cases h) rfl ?_; clear hE a; intro a hE
  replace hE := hE.cast 44 rfl (show _ = Value.agg ([[.int .i64 h2T.m], [.int .i64 h2T.r], [.bool h2T.v0.1], [.int .u64 ((h2T.v0.2.1 : Nat) : Int)], bv h2T.v0.2.2.1, bv h2T.v0.2.2.2, [.bool h2T.v1.1], [.int .u64 ((h2T.v1.2.1 : Nat) : Int)], bv h2T.v1.2.2.1, bv h2T.v1.2.2.2, [.bool h2T.s0.1], [.int .i64 h2T.s0.2.1], bv h2T.s0.2.2.1, bv h2T.s0.2.2.2.1, bv h2T.s0.2.2.2.2, [.bool h2T.s1.1], [.int .i64 h2T.s1.2.1], bv h2T.s1.2.2.1, bv h2T.s1.2.2.2.1, bv h2T.s1.2.2.2.2, [.bool h2T.s2.1], [.int .i64 h2T.s2.2.1], bv h2T.s2.2.2.1, bv h2T.s2.2.2.2.1, bv h2T.s2.2.2.2.2, [.bool h2T.s3.1], [.int .i64 h2T.s3.2.1], bv h2T.s3.2.2.1, bv h2T.s3.2.2.2.1, bv h2T.s3.2.2.2.2] : List (List Value)).flatten.toArray from (by first | rfl | simp only [List.flatten_cons, List.flatten_nil, List.append_nil, List.append_assoc]))
  refine g_yes hE rfl rfl ?_
  refine s_call hE rfl Tryd.call36 ((by have h := no25_c h2T [101, 102] 12 _ (hM.get 2 rfl) (hM.get 3 rfl) h2T_ok; rw [no1T] at h; exact h)) rfl ?_
  rintro e w6 ⟨rfl, hN⟩
  refine ⟨_, rfl, trivial, ?_⟩; clear hE a; intro a hE
  replace hM : Mem _ _ w6 [_, _, _, _] := hM.call0 hN trivial; clear hN
  refine g_yes hE rfl rfl ?_
  refine s_not hE rfl rfl ?_; clear hE a; intro a hE
  replace hE := hE.cast 46 rfl (show _ = Value.bool false from rfl)
  refine s_pickf hE rfl rfl rfl ?_; clear hE a; intro a hE
  refine s_move hE rfl rfl ?_; clear hE a; intro a hE
  refine g_yes hE rfl rfl ?_
  refine s_loadN hE rfl (hM.get 1 rfl) row62 rfl (by intro X h; cases h) rfl ?_; clear hE a; intro a hE
  replace hE := hE.cast 49 rfl (show _ = Value.agg ([[.int .i64 h2T.m], [.int .i64 h2T.r], [.bool h2T.v0.1], [.int .u64 ((h2T.v0.2.1 : Nat) : Int)], bv h2T.v0.2.2.1, bv h2T.v0.2.2.2, [.bool h2T.v1.1], [.int .u64 ((h2T.v1.2.1 : Nat) : Int)], bv h2T.v1.2.2.1, bv h2T.v1.2.2.2, [.bool h2T.s0.1], [.int .i64 h2T.s0.2.1], bv h2T.s0.2.2.1, bv h2T.s0.2.2.2.1, bv h2T.s0.2.2.2.2, [.bool h2T.s1.1], [.int .i64 h2T.s1.2.1], bv h2T.s1.2.2.1, bv h2T.s1.2.2.2.1, bv h2T.s1.2.2.2.2, [.bool h2T.s2.1], [.int .i64 h2T.s2.2.1], bv h2T.s2.2.2.1, bv h2T.s2.2.2.2.1, bv h2T.s2.2.2.2.2, [.bool h2T.s3.1], [.int .i64 h2T.s3.2.1], bv h2T.s3.2.2.1, bv h2T.s3.2.2.2.1, bv h2T.s3.2.2.2.2] : List (List Value)).flatten.toArray from (by first | rfl | simp only [List.flatten_cons, List.flatten_nil, List.append_nil, List.append_assoc]))
  refine g_yes hE rfl rfl ?_
  refine s_call hE rfl Tryd.call36 ((by have h := no25_c h2T [] 2 _ (hM.get 2 rfl) (hM.get 3 rfl) h2T_ok; rw [no2T] at h; exact h)) rfl ?_
  rintro e w7 ⟨rfl, hN⟩
  refine ⟨_, rfl, trivial, ?_⟩; clear hE a; intro a hE
  replace hM : Mem _ _ w7 [_, _, _, _] := hM.call0 hN trivial; clear hN
  refine g_yes hE rfl rfl ?_
  refine s_not hE rfl rfl ?_; clear hE a; intro a hE
  replace hE := hE.cast 51 rfl (show _ = Value.bool false from rfl)
  refine s_pickf hE rfl rfl rfl ?_; clear hE a; intro a hE
  refine s_move hE rfl rfl ?_; clear hE a; intro a hE
  refine g_yes hE rfl rfl ?_
  refine s_buildS [] hE rfl zero62 (by kernel_rfl) fpl62 (by first | (simp [PartsOk, Value.cells]; done) | (simp [PartsOk, Value.cells]; omega)) rfl ?_; clear hE a; intro a hE
  replace hE := hE.cast 54 rfl (show _ = Value.agg ([[.int .i64 0], [.int .i64 0], [.bool false], [.int .u64 0], bv (List.replicate 32 (0 : UInt8)), bv (List.replicate 32 (0 : UInt8)), [.bool false], [.int .u64 0], bv (List.replicate 32 (0 : UInt8)), bv (List.replicate 32 (0 : UInt8)), [.bool false], [.int .i64 0], bv (List.replicate 16 (0 : UInt8)), bv (List.replicate 32 (0 : UInt8)), bv (List.replicate 32 (0 : UInt8)), [.bool false], [.int .i64 0], bv (List.replicate 16 (0 : UInt8)), bv (List.replicate 32 (0 : UInt8)), bv (List.replicate 32 (0 : UInt8)), [.bool false], [.int .i64 0], bv (List.replicate 16 (0 : UInt8)), bv (List.replicate 32 (0 : UInt8)), bv (List.replicate 32 (0 : UInt8)), [.bool false], [.int .i64 0], bv (List.replicate 16 (0 : UInt8)), bv (List.replicate 32 (0 : UInt8)), bv (List.replicate 32 (0 : UInt8))] : List (List Value)).flatten.toArray from (by first | rfl | simp [setAll] | (simp only [setAll, List.set_cons_zero, List.set_cons_succ, List.flatten_cons, List.flatten_nil, List.append_nil, List.append_assoc, List.replicate_succ, List.replicate_zero])))
  refine g_yes hE rfl rfl ?_
  refine s_call hE rfl Tryd.call36 ((by have h := no25_c zH [97, 98] 2 _ (hM.get 2 rfl) (hM.get 3 rfl) zH_ok; rw [no3T] at h; exact h)) rfl ?_
  rintro e w8 ⟨rfl, hN⟩
  refine ⟨_, rfl, trivial, ?_⟩; clear hE a; intro a hE
  replace hM : Mem _ _ w8 [_, _, _, _] := hM.call0 hN trivial; clear hN
  refine g_yes hE rfl rfl ?_
  refine s_not hE rfl rfl ?_; clear hE a; intro a hE
  replace hE := hE.cast 56 rfl (show _ = Value.bool false from rfl)
  refine s_pickf hE rfl rfl rfl ?_; clear hE a; intro a hE
  refine s_move hE rfl rfl ?_; clear hE a; intro a hE
  refine g_yes hE rfl rfl ?_
  refine s_move hE rfl rfl ?_; clear hE a; intro a hE
  refine g_yes hE rfl rfl ?_
  refine s_len hE rfl Tryd.underlying77 (own_slice (hM.get 0 rfl)) rfl ?_; clear hE a; intro a hE
  refine g_yes hE rfl rfl ?_
  refine s_bin hE rfl rfl bin_neq rfl ?_; clear hE a; intro a hE
  refine s_pickf hE rfl rfl rfl ?_; clear hE a; intro a hE
  refine s_move hE rfl rfl ?_; clear hE a; intro a hE
  replace hE := hE.cast 63 rfl (show _ = Value.bool false from (congrArg Value.bool (by first | (with_reducible rfl) | decide)))
  refine g_yes hE rfl rfl ?_
  refine s_move hE rfl rfl ?_; clear hE a; intro a hE
  refine g_yes hE rfl rfl ?_
  obtain ⟨cx65, hx65⟩ := own_rd (hM.get 0 rfl)
  refine s_indexRd (j := 0) hE rfl hx65 rfl slt77 (by first | rfl | omega) (by decide) rfl ?_; clear hE a; intro a p65 hE hc65 hp65
  have hlj65 : 0 < (usedL h2T).length := (by decide)
  have hok65 := usedL_lt _ (getD_mem (d := 0) hlj65)
  rw [flat_elem (d := 0) (fun x hx => (show (intC _).length = 1 from rfl)) hlj65] at hc65
  refine g_yes hE rfl rfl ?_
  replace hc65 : (cellsAt _ [.int .i64 ((((usedL h2T).getD 0 0) : Nat) : Int)]).holds _ := hc65
  refine s_loadAt1 hE rfl hc65 one3 (by intro X h; cases h) rfl ?_; clear hE a; intro a hE
  refine g_yes hE rfl rfl ?_
  refine s_bin hE rfl rfl bin_neq rfl ?_; clear hE a; intro a hE
  refine s_pickf hE rfl rfl rfl ?_; clear hE a; intro a hE
  refine s_move hE rfl rfl ?_; clear hE a; intro a hE
  replace hE := hE.cast 69 rfl (show _ = Value.bool false from (congrArg Value.bool (by first | (with_reducible rfl) | decide)))
  refine g_yes hE rfl rfl ?_
  refine s_move hE rfl rfl ?_; clear hE a; intro a hE
  refine g_yes hE rfl rfl ?_
  obtain ⟨cx71, hx71⟩ := own_rd (hM.get 0 rfl)
  refine s_indexRd (j := 1) hE rfl hx71 rfl slt77 (by first | rfl | omega) (by decide) rfl ?_; clear hE a; intro a p71 hE hc71 hp71
  have hlj71 : 1 < (usedL h2T).length := (by decide)
  have hok71 := usedL_lt _ (getD_mem (d := 0) hlj71)
  rw [flat_elem (d := 0) (fun x hx => (show (intC _).length = 1 from rfl)) hlj71] at hc71
  refine g_yes hE rfl rfl ?_
  replace hc71 : (cellsAt _ [.int .i64 ((((usedL h2T).getD 1 0) : Nat) : Int)]).holds _ := hc71
  refine s_loadAt1 hE rfl hc71 one3 (by intro X h; cases h) rfl ?_; clear hE a; intro a hE
  refine g_yes hE rfl rfl ?_
  refine s_bin hE rfl rfl bin_neq rfl ?_; clear hE a; intro a hE
  refine s_pickf hE rfl rfl rfl ?_; clear hE a; intro a hE
  refine q_nil ?_
  replace hE : Env a 196 [(0, _), (1, _), (74, _)] := hE.sel [0, 1, 74] rfl
  refine hK5 _ _ ?_
  replace hE := hE.cast 74 rfl (show _ = Value.bool false from (congrArg Value.bool (by first | (with_reducible rfl) | decide)))
  refine wp_cond_false (hE.eval rfl) ?_
  refine wp_skip ?_
  refine hK4 _ _ ?_
  refine wp_seq_k (fun K6 hK6 => ?_)
  refine wp_plain [true, false, true, true, true, false, false, true] rfl rfl ?_
  refine s_loadN hE rfl (hM.get 1 rfl) row62 rfl (by intro X h; cases h) rfl ?_; clear hE a; intro a hE
  replace hE := hE.cast 76 rfl (show _ = Value.agg ([[.int .i64 h2T.m], [.int .i64 h2T.r], [.bool h2T.v0.1], [.int .u64 ((h2T.v0.2.1 : Nat) : Int)], bv h2T.v0.2.2.1, bv h2T.v0.2.2.2, [.bool h2T.v1.1], [.int .u64 ((h2T.v1.2.1 : Nat) : Int)], bv h2T.v1.2.2.1, bv h2T.v1.2.2.2, [.bool h2T.s0.1], [.int .i64 h2T.s0.2.1], bv h2T.s0.2.2.1, bv h2T.s0.2.2.2.1, bv h2T.s0.2.2.2.2, [.bool h2T.s1.1], [.int .i64 h2T.s1.2.1], bv h2T.s1.2.2.1, bv h2T.s1.2.2.2.1, bv h2T.s1.2.2.2.2, [.bool h2T.s2.1], [.int .i64 h2T.s2.2.1], bv h2T.s2.2.2.1, bv h2T.s2.2.2.2.1, bv h2T.s2.2.2.2.2, [.bool h2T.s3.1], [.int .i64 h2T.s3.2.1], bv h2T.s3.2.2.1, bv h2T.s3.2.2.2.1, bv h2T.s3.2.2.2.2] : List (List Value)).flatten.toArray from (by first | rfl | simp only [List.flatten_cons, List.flatten_nil, List.append_nil, List.append_assoc]))
  refine s_call hE rfl Tryd.call32 ((by have h := fun w : World => rem_c h2T 0 w h2T_ok; simp only [rem1T] at h; exact h _)) rfl ?_
  rintro e w9 ⟨rfl, hN⟩
  refine ⟨_, rfl, trivial, ?_⟩; clear hE a; intro a hE
  replace hM : Mem _ _ w9 [_, _, _, _] := hM.call0 hN trivial; clear hN
  refine s_move hE rfl rfl ?_; clear hE a; intro a hE
  refine s_extract hE rfl rfl rfl ?_; clear hE a; intro a hE
  refine s_extract hE rfl rfl rfl ?_; clear hE a; intro a hE
  refine s_alloc [1, 1, 1, 1, 32, 32, 1, 1, 32, 32, 1, 1, 16, 32, 32, 1, 1, 16, 32, 32, 1, 1, 16, 32, 32, 1, 1, 16, 32, 32] hE hM zeroL62 rfl rfl ?_; clear hE a; intro a b4 w10 hE hM'
  clear hM; have hM := hM'; clear hM'
  have hsl173_4 : gT.v0.2.2.1.length = 32 := gT_ok.v0.2.1
  have hsl173_5 : gT.v0.2.2.2.length = 32 := gT_ok.v0.2.2
  have hsl173_8 : gT.v1.2.2.1.length = 32 := gT_ok.v1.2.1
  have hsl173_9 : gT.v1.2.2.2.length = 32 := gT_ok.v1.2.2
  have hsl173_12 : gT.s0.2.2.1.length = 16 := gT_ok.s0.2.1
  have hsl173_13 : gT.s0.2.2.2.1.length = 32 := gT_ok.s0.2.2.1
  have hsl173_14 : gT.s0.2.2.2.2.length = 32 := gT_ok.s0.2.2.2
  have hsl173_17 : gT.s1.2.2.1.length = 16 := gT_ok.s1.2.1
  have hsl173_18 : gT.s1.2.2.2.1.length = 32 := gT_ok.s1.2.2.1
  have hsl173_19 : gT.s1.2.2.2.2.length = 32 := gT_ok.s1.2.2.2
  have hsl173_22 : gT.s2.2.2.1.length = 16 := gT_ok.s2.2.1
  have hsl173_23 : gT.s2.2.2.2.1.length = 32 := gT_ok.s2.2.2.1
  have hsl173_24 : gT.s2.2.2.2.2.length = 32 := gT_ok.s2.2.2.2
  have hsl173_27 : gT.s3.2.2.1.length = 16 := gT_ok.s3.2.1
  have hsl173_28 : gT.s3.2.2.2.1.length = 32 := gT_ok.s3.2.2.1
  have hsl173_29 : gT.s3.2.2.2.2.length = 32 := gT_ok.s3.2.2.2
  refine s_storeSegs 0 30 (vss := [[.int .i64 gT.m], [.int .i64 gT.r], [.bool gT.v0.1], [.int .u64 ((gT.v0.2.1 : Nat) : Int)], bv gT.v0.2.2.1, bv gT.v0.2.2.2, [.bool gT.v1.1], [.int .u64 ((gT.v1.2.1 : Nat) : Int)], bv gT.v1.2.2.1, bv gT.v1.2.2.2, [.bool gT.s0.1], [.int .i64 gT.s0.2.1], bv gT.s0.2.2.1, bv gT.s0.2.2.2.1, bv gT.s0.2.2.2.2, [.bool gT.s1.1], [.int .i64 gT.s1.2.1], bv gT.s1.2.2.1, bv gT.s1.2.2.2.1, bv gT.s1.2.2.2.2, [.bool gT.s2.1], [.int .i64 gT.s2.2.1], bv gT.s2.2.2.1, bv gT.s2.2.2.2.1, bv gT.s2.2.2.2.2, [.bool gT.s3.1], [.int .i64 gT.s3.2.1], bv gT.s3.2.2.1, bv gT.s3.2.2.2.1, bv gT.s3.2.2.2.2]) hE rfl rfl hM rfl sz62 (by simp only [List.take_succ_cons, List.take_zero, List.drop_zero, List.drop_succ_cons]; simp only [List.map_cons, List.map_nil, bv_length, List.length_cons, List.length_nil, List.length_replicate, hsl173_4, hsl173_5, hsl173_8, hsl173_9, hsl173_12, hsl173_13, hsl173_14, hsl173_17, hsl173_18, hsl173_19, hsl173_22, hsl173_23, hsl173_24, hsl173_27, hsl173_28, hsl173_29]) (by decide) rfl (one_fl ⟨one1 rfl, one1 rfl, one1 rfl, one1 rfl, bv_one _, bv_one _, one1 rfl, one1 rfl, bv_one _, bv_one _, one1 rfl, one1 rfl, bv_one _, bv_one _, bv_one _, one1 rfl, one1 rfl, bv_one _, bv_one _, bv_one _, one1 rfl, one1 rfl, bv_one _, bv_one _, bv_one _, one1 rfl, one1 rfl, bv_one _, bv_one _, bv_one _, trivial⟩) rfl (by intro X h; cases h) ?_; intro w11 hM'; clear hM; have hM := hM'; clear hM'
  try simp only [List.take_zero, List.take_succ_cons, List.drop_zero, List.drop_succ_cons, List.take_nil, List.drop_nil, List.nil_append, List.append_nil, List.cons_append] at hM
  refine s_assign hE rfl rfl ?_; clear hE a; intro a hE
  refine q_nil ?_
  replace hE : Env a 196 [(0, _), (1, _), (4, _), (5, _), (74, _)] := hE.sel [0, 1, 4, 5, 74] rfl
  refine hK6 _ _ ?_
  refine wp_seq_k (fun K7 hK7 => ?_)
  refine wp_plain [true, false, true, true, true, false, false, true] rfl rfl ?_
  refine s_loadN hE rfl (hM.get 0 rfl) row62 rfl (by intro X h; cases h) rfl ?_; clear hE a; intro a hE
  replace hE := hE.cast 81 rfl (show _ = Value.agg ([[.int .i64 gT.m], [.int .i64 gT.r], [.bool gT.v0.1], [.int .u64 ((gT.v0.2.1 : Nat) : Int)], bv gT.v0.2.2.1, bv gT.v0.2.2.2, [.bool gT.v1.1], [.int .u64 ((gT.v1.2.1 : Nat) : Int)], bv gT.v1.2.2.1, bv gT.v1.2.2.2, [.bool gT.s0.1], [.int .i64 gT.s0.2.1], bv gT.s0.2.2.1, bv gT.s0.2.2.2.1, bv gT.s0.2.2.2.2, [.bool gT.s1.1], [.int .i64 gT.s1.2.1], bv gT.s1.2.2.1, bv gT.s1.2.2.2.1, bv gT.s1.2.2.2.2, [.bool gT.s2.1], [.int .i64 gT.s2.2.1], bv gT.s2.2.2.1, bv gT.s2.2.2.2.1, bv gT.s2.2.2.2.2, [.bool gT.s3.1], [.int .i64 gT.s3.2.1], bv gT.s3.2.2.1, bv gT.s3.2.2.2.1, bv gT.s3.2.2.2.2] : List (List Value)).flatten.toArray from (by first | rfl | simp only [List.flatten_cons, List.flatten_nil, List.append_nil, List.append_assoc]))
  refine s_call hE rfl Tryd.call32 ((by have h := fun w : World => rem_c gT 0 w gT_ok; simp only [rem2T] at h; exact h _)) rfl ?_
  rintro e w12 ⟨rfl, hN⟩
  refine ⟨_, rfl, trivial, ?_⟩; clear hE a; intro a hE
  replace hM : Mem _ _ w12 [_, _, _, _, _] := hM.call0 hN trivial; clear hN
  refine s_move hE rfl rfl ?_; clear hE a; intro a hE
  refine s_extract hE rfl rfl rfl ?_; clear hE a; intro a hE
  refine s_extract hE rfl rfl rfl ?_; clear hE a; intro a hE
  refine s_alloc [1, 1, 1, 1, 32, 32, 1, 1, 32, 32, 1, 1, 16, 32, 32, 1, 1, 16, 32, 32, 1, 1, 16, 32, 32, 1, 1, 16, 32, 32] hE hM zeroL62 rfl rfl ?_; clear hE a; intro a b6 w13 hE hM'
  clear hM; have hM := hM'; clear hM'
  have hsl208_4 : (((remS gT 0).1).v0.2.2.1).length = 32 := (remS_ok (i := 0) gT_ok).v0.2.1
  have hsl208_5 : (((remS gT 0).1).v0.2.2.2).length = 32 := (remS_ok (i := 0) gT_ok).v0.2.2
  have hsl208_8 : (((remS gT 0).1).v1.2.2.1).length = 32 := (remS_ok (i := 0) gT_ok).v1.2.1
  have hsl208_9 : (((remS gT 0).1).v1.2.2.2).length = 32 := (remS_ok (i := 0) gT_ok).v1.2.2
  have hsl208_12 : (((remS gT 0).1).s0.2.2.1).length = 16 := (remS_ok (i := 0) gT_ok).s0.2.1
  have hsl208_13 : (((remS gT 0).1).s0.2.2.2.1).length = 32 := (remS_ok (i := 0) gT_ok).s0.2.2.1
  have hsl208_14 : (((remS gT 0).1).s0.2.2.2.2).length = 32 := (remS_ok (i := 0) gT_ok).s0.2.2.2
  have hsl208_17 : (((remS gT 0).1).s1.2.2.1).length = 16 := (remS_ok (i := 0) gT_ok).s1.2.1
  have hsl208_18 : (((remS gT 0).1).s1.2.2.2.1).length = 32 := (remS_ok (i := 0) gT_ok).s1.2.2.1
  have hsl208_19 : (((remS gT 0).1).s1.2.2.2.2).length = 32 := (remS_ok (i := 0) gT_ok).s1.2.2.2
  have hsl208_22 : (((remS gT 0).1).s2.2.2.1).length = 16 := (remS_ok (i := 0) gT_ok).s2.2.1
  have hsl208_23 : (((remS gT 0).1).s2.2.2.2.1).length = 32 := (remS_ok (i := 0) gT_ok).s2.2.2.1
  have hsl208_24 : (((remS gT 0).1).s2.2.2.2.2).length = 32 := (remS_ok (i := 0) gT_ok).s2.2.2.2
  have hsl208_27 : (((remS gT 0).1).s3.2.2.1).length = 16 := (remS_ok (i := 0) gT_ok).s3.2.1
  have hsl208_28 : (((remS gT 0).1).s3.2.2.2.1).length = 32 := (remS_ok (i := 0) gT_ok).s3.2.2.1
  have hsl208_29 : (((remS gT 0).1).s3.2.2.2.2).length = 32 := (remS_ok (i := 0) gT_ok).s3.2.2.2
  refine s_storeSegs 0 30 (vss := [[.int .i64 (((remS gT 0).1).m)], [.int .i64 (((remS gT 0).1).r)], [.bool (((remS gT 0).1).v0.1)], [.int .u64 ((((remS gT 0).1).v0.2.1 : Nat) : Int)], bv (((remS gT 0).1).v0.2.2.1), bv (((remS gT 0).1).v0.2.2.2), [.bool (((remS gT 0).1).v1.1)], [.int .u64 ((((remS gT 0).1).v1.2.1 : Nat) : Int)], bv (((remS gT 0).1).v1.2.2.1), bv (((remS gT 0).1).v1.2.2.2), [.bool (((remS gT 0).1).s0.1)], [.int .i64 (((remS gT 0).1).s0.2.1)], bv (((remS gT 0).1).s0.2.2.1), bv (((remS gT 0).1).s0.2.2.2.1), bv (((remS gT 0).1).s0.2.2.2.2), [.bool (((remS gT 0).1).s1.1)], [.int .i64 (((remS gT 0).1).s1.2.1)], bv (((remS gT 0).1).s1.2.2.1), bv (((remS gT 0).1).s1.2.2.2.1), bv (((remS gT 0).1).s1.2.2.2.2), [.bool (((remS gT 0).1).s2.1)], [.int .i64 (((remS gT 0).1).s2.2.1)], bv (((remS gT 0).1).s2.2.2.1), bv (((remS gT 0).1).s2.2.2.2.1), bv (((remS gT 0).1).s2.2.2.2.2), [.bool (((remS gT 0).1).s3.1)], [.int .i64 (((remS gT 0).1).s3.2.1)], bv (((remS gT 0).1).s3.2.2.1), bv (((remS gT 0).1).s3.2.2.2.1), bv (((remS gT 0).1).s3.2.2.2.2)]) hE rfl rfl hM rfl sz62 (by simp only [List.take_succ_cons, List.take_zero, List.drop_zero, List.drop_succ_cons]; simp only [List.map_cons, List.map_nil, bv_length, List.length_cons, List.length_nil, List.length_replicate, hsl208_4, hsl208_5, hsl208_8, hsl208_9, hsl208_12, hsl208_13, hsl208_14, hsl208_17, hsl208_18, hsl208_19, hsl208_22, hsl208_23, hsl208_24, hsl208_27, hsl208_28, hsl208_29]) (by decide) rfl (one_fl ⟨one1 rfl, one1 rfl, one1 rfl, one1 rfl, bv_one _, bv_one _, one1 rfl, one1 rfl, bv_one _, bv_one _, one1 rfl, one1 rfl, bv_one _, bv_one _, bv_one _, one1 rfl, one1 rfl, bv_one _, bv_one _, bv_one _, one1 rfl, one1 rfl, bv_one _, bv_one _, bv_one _, one1 rfl, one1 rfl, bv_one _, bv_one _, bv_one _, trivial⟩) rfl (by intro X h; cases h) ?_; intro w14 hM'; clear hM; have hM := hM'; clear hM'
  try simp only [List.take_zero, List.take_succ_cons, List.drop_zero, List.drop_succ_cons, List.take_nil, List.drop_nil, List.nil_append, List.append_nil, List.cons_append] at hM
  refine s_assign hE rfl rfl ?_; clear hE a; intro a hE
  refine q_nil ?_
  replace hE : Env a 196 [(0, _), (1, _), (4, _), (5, _), (7, _), (74, _)] := hE.sel [0, 1, 4, 5, 7, 74] rfl
  refine hK7 _ _ ?_
  refine wp_seq_k (fun K8 hK8 => ?_)
  refine wp_plain [true, false, true, true, true, false, false, true] rfl rfl ?_
  refine s_loadN hE rfl (hM.get 1 rfl) row62 rfl (by intro X h; cases h) rfl ?_; clear hE a; intro a hE
  replace hE := hE.cast 86 rfl (show _ = Value.agg ([[.int .i64 gT.m], [.int .i64 gT.r], [.bool gT.v0.1], [.int .u64 ((gT.v0.2.1 : Nat) : Int)], bv gT.v0.2.2.1, bv gT.v0.2.2.2, [.bool gT.v1.1], [.int .u64 ((gT.v1.2.1 : Nat) : Int)], bv gT.v1.2.2.1, bv gT.v1.2.2.2, [.bool gT.s0.1], [.int .i64 gT.s0.2.1], bv gT.s0.2.2.1, bv gT.s0.2.2.2.1, bv gT.s0.2.2.2.2, [.bool gT.s1.1], [.int .i64 gT.s1.2.1], bv gT.s1.2.2.1, bv gT.s1.2.2.2.1, bv gT.s1.2.2.2.2, [.bool gT.s2.1], [.int .i64 gT.s2.2.1], bv gT.s2.2.2.1, bv gT.s2.2.2.2.1, bv gT.s2.2.2.2.2, [.bool gT.s3.1], [.int .i64 gT.s3.2.1], bv gT.s3.2.2.1, bv gT.s3.2.2.2.1, bv gT.s3.2.2.2.2] : List (List Value)).flatten.toArray from (by first | rfl | simp only [List.flatten_cons, List.flatten_nil, List.append_nil, List.append_assoc]))
  refine s_call hE rfl Tryd.call32 ((by have h := fun w : World => rem_c gT 4 w gT_ok; simp only [rem3T] at h; exact h _)) rfl ?_
  rintro e w15 ⟨rfl, hN⟩
  refine ⟨_, rfl, trivial, ?_⟩; clear hE a; intro a hE
  replace hM : Mem _ _ w15 [_, _, _, _, _, _] := hM.call0 hN trivial; clear hN
  refine s_move hE rfl rfl ?_; clear hE a; intro a hE
  refine s_extract hE rfl rfl rfl ?_; clear hE a; intro a hE
  refine s_extract hE rfl rfl rfl ?_; clear hE a; intro a hE
  refine s_alloc [1, 1, 1, 1, 32, 32, 1, 1, 32, 32, 1, 1, 16, 32, 32, 1, 1, 16, 32, 32, 1, 1, 16, 32, 32, 1, 1, 16, 32, 32] hE hM zeroL62 rfl rfl ?_; clear hE a; intro a b8 w16 hE hM'
  clear hM; have hM := hM'; clear hM'
  have hsl243_4 : (((remS gT 4).1).v0.2.2.1).length = 32 := (remS_ok (i := 4) gT_ok).v0.2.1
  have hsl243_5 : (((remS gT 4).1).v0.2.2.2).length = 32 := (remS_ok (i := 4) gT_ok).v0.2.2
  have hsl243_8 : (((remS gT 4).1).v1.2.2.1).length = 32 := (remS_ok (i := 4) gT_ok).v1.2.1
  have hsl243_9 : (((remS gT 4).1).v1.2.2.2).length = 32 := (remS_ok (i := 4) gT_ok).v1.2.2
  have hsl243_12 : (((remS gT 4).1).s0.2.2.1).length = 16 := (remS_ok (i := 4) gT_ok).s0.2.1
  have hsl243_13 : (((remS gT 4).1).s0.2.2.2.1).length = 32 := (remS_ok (i := 4) gT_ok).s0.2.2.1
  have hsl243_14 : (((remS gT 4).1).s0.2.2.2.2).length = 32 := (remS_ok (i := 4) gT_ok).s0.2.2.2
  have hsl243_17 : (((remS gT 4).1).s1.2.2.1).length = 16 := (remS_ok (i := 4) gT_ok).s1.2.1
  have hsl243_18 : (((remS gT 4).1).s1.2.2.2.1).length = 32 := (remS_ok (i := 4) gT_ok).s1.2.2.1
  have hsl243_19 : (((remS gT 4).1).s1.2.2.2.2).length = 32 := (remS_ok (i := 4) gT_ok).s1.2.2.2
  have hsl243_22 : (((remS gT 4).1).s2.2.2.1).length = 16 := (remS_ok (i := 4) gT_ok).s2.2.1
  have hsl243_23 : (((remS gT 4).1).s2.2.2.2.1).length = 32 := (remS_ok (i := 4) gT_ok).s2.2.2.1
  have hsl243_24 : (((remS gT 4).1).s2.2.2.2.2).length = 32 := (remS_ok (i := 4) gT_ok).s2.2.2.2
  have hsl243_27 : (((remS gT 4).1).s3.2.2.1).length = 16 := (remS_ok (i := 4) gT_ok).s3.2.1
  have hsl243_28 : (((remS gT 4).1).s3.2.2.2.1).length = 32 := (remS_ok (i := 4) gT_ok).s3.2.2.1
  have hsl243_29 : (((remS gT 4).1).s3.2.2.2.2).length = 32 := (remS_ok (i := 4) gT_ok).s3.2.2.2
  refine s_storeSegs 0 30 (vss := [[.int .i64 (((remS gT 4).1).m)], [.int .i64 (((remS gT 4).1).r)], [.bool (((remS gT 4).1).v0.1)], [.int .u64 ((((remS gT 4).1).v0.2.1 : Nat) : Int)], bv (((remS gT 4).1).v0.2.2.1), bv (((remS gT 4).1).v0.2.2.2), [.bool (((remS gT 4).1).v1.1)], [.int .u64 ((((remS gT 4).1).v1.2.1 : Nat) : Int)], bv (((remS gT 4).1).v1.2.2.1), bv (((remS gT 4).1).v1.2.2.2), [.bool (((remS gT 4).1).s0.1)], [.int .i64 (((remS gT 4).1).s0.2.1)], bv (((remS gT 4).1).s0.2.2.1), bv (((remS gT 4).1).s0.2.2.2.1), bv (((remS gT 4).1).s0.2.2.2.2), [.bool (((remS gT 4).1).s1.1)], [.int .i64 (((remS gT 4).1).s1.2.1)], bv (((remS gT 4).1).s1.2.2.1), bv (((remS gT 4).1).s1.2.2.2.1), bv (((remS gT 4).1).s1.2.2.2.2), [.bool (((remS gT 4).1).s2.1)], [.int .i64 (((remS gT 4).1).s2.2.1)], bv (((remS gT 4).1).s2.2.2.1), bv (((remS gT 4).1).s2.2.2.2.1), bv (((remS gT 4).1).s2.2.2.2.2), [.bool (((remS gT 4).1).s3.1)], [.int .i64 (((remS gT 4).1).s3.2.1)], bv (((remS gT 4).1).s3.2.2.1), bv (((remS gT 4).1).s3.2.2.2.1), bv (((remS gT 4).1).s3.2.2.2.2)]) hE rfl rfl hM rfl sz62 (by simp only [List.take_succ_cons, List.take_zero, List.drop_zero, List.drop_succ_cons]; simp only [List.map_cons, List.map_nil, bv_length, List.length_cons, List.length_nil, List.length_replicate, hsl243_4, hsl243_5, hsl243_8, hsl243_9, hsl243_12, hsl243_13, hsl243_14, hsl243_17, hsl243_18, hsl243_19, hsl243_22, hsl243_23, hsl243_24, hsl243_27, hsl243_28, hsl243_29]) (by decide) rfl (one_fl ⟨one1 rfl, one1 rfl, one1 rfl, one1 rfl, bv_one _, bv_one _, one1 rfl, one1 rfl, bv_one _, bv_one _, one1 rfl, one1 rfl, bv_one _, bv_one _, bv_one _, one1 rfl, one1 rfl, bv_one _, bv_one _, bv_one _, one1 rfl, one1 rfl, bv_one _, bv_one _, bv_one _, one1 rfl, one1 rfl, bv_one _, bv_one _, bv_one _, trivial⟩) rfl (by intro X h; cases h) ?_; intro w17 hM'; clear hM; have hM := hM'; clear hM'
  try simp only [List.take_zero, List.take_succ_cons, List.drop_zero, List.drop_succ_cons, List.take_nil, List.drop_nil, List.nil_append, List.append_nil, List.cons_append] at hM
  refine s_assign hE rfl rfl ?_; clear hE a; intro a hE
  refine q_nil ?_
  replace hE : Env a 196 [(0, _), (1, _), (4, _), (5, _), (7, _), (9, _), (74, _)] := hE.sel [0, 1, 4, 5, 7, 9, 74] rfl
  refine hK8 _ _ ?_
  refine wp_seq_k (fun K9 hK9 => ?_)
  refine wp_plain [true, true, true, false, true, true, true, true, false, false, true, true] rfl rfl ?_
  refine s_loadN hE rfl (hM.get 4 rfl) row62 rfl (by intro X h; cases h) rfl ?_; clear hE a; intro a hE
  replace hE := hE.cast 91 rfl (show _ = Value.agg ([[.int .i64 h2T.m], [.int .i64 h2T.r], [.bool h2T.v0.1], [.int .u64 ((h2T.v0.2.1 : Nat) : Int)], bv h2T.v0.2.2.1, bv h2T.v0.2.2.2, [.bool h2T.v1.1], [.int .u64 ((h2T.v1.2.1 : Nat) : Int)], bv h2T.v1.2.2.1, bv h2T.v1.2.2.2, [.bool h2T.s0.1], [.int .i64 h2T.s0.2.1], bv h2T.s0.2.2.1, bv h2T.s0.2.2.2.1, bv h2T.s0.2.2.2.2, [.bool h2T.s1.1], [.int .i64 h2T.s1.2.1], bv h2T.s1.2.2.1, bv h2T.s1.2.2.2.1, bv h2T.s1.2.2.2.2, [.bool h2T.s2.1], [.int .i64 h2T.s2.2.1], bv h2T.s2.2.2.1, bv h2T.s2.2.2.2.1, bv h2T.s2.2.2.2.2, [.bool h2T.s3.1], [.int .i64 h2T.s3.2.1], bv h2T.s3.2.2.1, bv h2T.s3.2.2.2.1, bv h2T.s3.2.2.2.2] : List (List Value)).flatten.toArray from (by first | rfl | simp only [List.flatten_cons, List.flatten_nil, List.append_nil, List.append_assoc]))
  refine s_build (r := .agg (bv [7, 0, 0, 0, 0, 0, 0, 0, 0, 0, 0, 0, 0, 0, 0, 0, 0, 0, 0, 0, 0, 0, 0, 0, 0, 0, 0, 0, 0, 0, 0, 0]).toArray) _ hE rfl (fun w => by kernel_rfl) rfl ?_; clear hE a; intro a hE
  refine s_build (r := .agg (bv [9, 0, 0, 0, 0, 0, 0, 0, 0, 0, 0, 0, 0, 0, 0, 0]).toArray) _ hE rfl (fun w => by kernel_rfl) rfl ?_; clear hE a; intro a hE
  refine s_call hE rfl Tryd.call37 ((by have h := add_c h2T k7 [97, 98] sa9 1 _ (hM.get 5 rfl) (hM.get 6 rfl) h2T_ok (by decide) (by decide) (by unfold In64; decide); rw [ad3T] at h; exact h)) rfl ?_
  rintro e w18 ⟨rfl, hN⟩
  refine ⟨_, rfl, trivial, ?_⟩; clear hE a; intro a hE
  replace hM : Mem _ _ w18 [_, _, _, _, _, _, _] := hM.call0 hN trivial; clear hN
  refine s_move hE rfl rfl ?_; clear hE a; intro a hE
  refine s_extract hE rfl rfl rfl ?_; clear hE a; intro a hE
  refine s_extract hE rfl rfl rfl ?_; clear hE a; intro a hE
  refine s_extract hE rfl rfl rfl ?_; clear hE a; intro a hE
  refine s_alloc [1, 1, 1, 1, 32, 32, 1, 1, 32, 32, 1, 1, 16, 32, 32, 1, 1, 16, 32, 32, 1, 1, 16, 32, 32, 1, 1, 16, 32, 32] hE hM zeroL62 rfl rfl ?_; clear hE a; intro a b10 w19 hE hM'
  clear hM; have hM := hM'; clear hM'
  have hsl281_4 : (((addS h2T k7 [97, 98] sa9 1).1).v0.2.2.1).length = 32 := (addS_ok (h := h2T) (x := k7) (p := [97, 98]) (b := sa9) (z := 1) h2T_ok (by unfold In64; decide) (by decide) (by decide)).v0.2.1
  have hsl281_5 : (((addS h2T k7 [97, 98] sa9 1).1).v0.2.2.2).length = 32 := (addS_ok (h := h2T) (x := k7) (p := [97, 98]) (b := sa9) (z := 1) h2T_ok (by unfold In64; decide) (by decide) (by decide)).v0.2.2
  have hsl281_8 : (((addS h2T k7 [97, 98] sa9 1).1).v1.2.2.1).length = 32 := (addS_ok (h := h2T) (x := k7) (p := [97, 98]) (b := sa9) (z := 1) h2T_ok (by unfold In64; decide) (by decide) (by decide)).v1.2.1
  have hsl281_9 : (((addS h2T k7 [97, 98] sa9 1).1).v1.2.2.2).length = 32 := (addS_ok (h := h2T) (x := k7) (p := [97, 98]) (b := sa9) (z := 1) h2T_ok (by unfold In64; decide) (by decide) (by decide)).v1.2.2
  have hsl281_12 : (((addS h2T k7 [97, 98] sa9 1).1).s0.2.2.1).length = 16 := (addS_ok (h := h2T) (x := k7) (p := [97, 98]) (b := sa9) (z := 1) h2T_ok (by unfold In64; decide) (by decide) (by decide)).s0.2.1
  have hsl281_13 : (((addS h2T k7 [97, 98] sa9 1).1).s0.2.2.2.1).length = 32 := (addS_ok (h := h2T) (x := k7) (p := [97, 98]) (b := sa9) (z := 1) h2T_ok (by unfold In64; decide) (by decide) (by decide)).s0.2.2.1
  have hsl281_14 : (((addS h2T k7 [97, 98] sa9 1).1).s0.2.2.2.2).length = 32 := (addS_ok (h := h2T) (x := k7) (p := [97, 98]) (b := sa9) (z := 1) h2T_ok (by unfold In64; decide) (by decide) (by decide)).s0.2.2.2
  have hsl281_17 : (((addS h2T k7 [97, 98] sa9 1).1).s1.2.2.1).length = 16 := (addS_ok (h := h2T) (x := k7) (p := [97, 98]) (b := sa9) (z := 1) h2T_ok (by unfold In64; decide) (by decide) (by decide)).s1.2.1
  have hsl281_18 : (((addS h2T k7 [97, 98] sa9 1).1).s1.2.2.2.1).length = 32 := (addS_ok (h := h2T) (x := k7) (p := [97, 98]) (b := sa9) (z := 1) h2T_ok (by unfold In64; decide) (by decide) (by decide)).s1.2.2.1
  have hsl281_19 : (((addS h2T k7 [97, 98] sa9 1).1).s1.2.2.2.2).length = 32 := (addS_ok (h := h2T) (x := k7) (p := [97, 98]) (b := sa9) (z := 1) h2T_ok (by unfold In64; decide) (by decide) (by decide)).s1.2.2.2
  have hsl281_22 : (((addS h2T k7 [97, 98] sa9 1).1).s2.2.2.1).length = 16 := (addS_ok (h := h2T) (x := k7) (p := [97, 98]) (b := sa9) (z := 1) h2T_ok (by unfold In64; decide) (by decide) (by decide)).s2.2.1
  have hsl281_23 : (((addS h2T k7 [97, 98] sa9 1).1).s2.2.2.2.1).length = 32 := (addS_ok (h := h2T) (x := k7) (p := [97, 98]) (b := sa9) (z := 1) h2T_ok (by unfold In64; decide) (by decide) (by decide)).s2.2.2.1
  have hsl281_24 : (((addS h2T k7 [97, 98] sa9 1).1).s2.2.2.2.2).length = 32 := (addS_ok (h := h2T) (x := k7) (p := [97, 98]) (b := sa9) (z := 1) h2T_ok (by unfold In64; decide) (by decide) (by decide)).s2.2.2.2
  have hsl281_27 : (((addS h2T k7 [97, 98] sa9 1).1).s3.2.2.1).length = 16 := (addS_ok (h := h2T) (x := k7) (p := [97, 98]) (b := sa9) (z := 1) h2T_ok (by unfold In64; decide) (by decide) (by decide)).s3.2.1
  have hsl281_28 : (((addS h2T k7 [97, 98] sa9 1).1).s3.2.2.2.1).length = 32 := (addS_ok (h := h2T) (x := k7) (p := [97, 98]) (b := sa9) (z := 1) h2T_ok (by unfold In64; decide) (by decide) (by decide)).s3.2.2.1
  have hsl281_29 : (((addS h2T k7 [97, 98] sa9 1).1).s3.2.2.2.2).length = 32 := (addS_ok (h := h2T) (x := k7) (p := [97, 98]) (b := sa9) (z := 1) h2T_ok (by unfold In64; decide) (by decide) (by decide)).s3.2.2.2
  refine s_storeSegs 0 30 (vss := [[.int .i64 (((addS h2T k7 [97, 98] sa9 1).1).m)], [.int .i64 (((addS h2T k7 [97, 98] sa9 1).1).r)], [.bool (((addS h2T k7 [97, 98] sa9 1).1).v0.1)], [.int .u64 ((((addS h2T k7 [97, 98] sa9 1).1).v0.2.1 : Nat) : Int)], bv (((addS h2T k7 [97, 98] sa9 1).1).v0.2.2.1), bv (((addS h2T k7 [97, 98] sa9 1).1).v0.2.2.2), [.bool (((addS h2T k7 [97, 98] sa9 1).1).v1.1)], [.int .u64 ((((addS h2T k7 [97, 98] sa9 1).1).v1.2.1 : Nat) : Int)], bv (((addS h2T k7 [97, 98] sa9 1).1).v1.2.2.1), bv (((addS h2T k7 [97, 98] sa9 1).1).v1.2.2.2), [.bool (((addS h2T k7 [97, 98] sa9 1).1).s0.1)], [.int .i64 (((addS h2T k7 [97, 98] sa9 1).1).s0.2.1)], bv (((addS h2T k7 [97, 98] sa9 1).1).s0.2.2.1), bv (((addS h2T k7 [97, 98] sa9 1).1).s0.2.2.2.1), bv (((addS h2T k7 [97, 98] sa9 1).1).s0.2.2.2.2), [.bool (((addS h2T k7 [97, 98] sa9 1).1).s1.1)], [.int .i64 (((addS h2T k7 [97, 98] sa9 1).1).s1.2.1)], bv (((addS h2T k7 [97, 98] sa9 1).1).s1.2.2.1), bv (((addS h2T k7 [97, 98] sa9 1).1).s1.2.2.2.1), bv (((addS h2T k7 [97, 98] sa9 1).1).s1.2.2.2.2), [.bool (((addS h2T k7 [97, 98] sa9 1).1).s2.1)], [.int .i64 (((addS h2T k7 [97, 98] sa9 1).1).s2.2.1)], bv (((addS h2T k7 [97, 98] sa9 1).1).s2.2.2.1), bv (((addS h2T k7 [97, 98] sa9 1).1).s2.2.2.2.1), bv (((addS h2T k7 [97, 98] sa9 1).1).s2.2.2.2.2), [.bool (((addS h2T k7 [97, 98] sa9 1).1).s3.1)], [.int .i64 (((addS h2T k7 [97, 98] sa9 1).1).s3.2.1)], bv (((addS h2T k7 [97, 98] sa9 1).1).s3.2.2.1), bv (((addS h2T k7 [97, 98] sa9 1).1).s3.2.2.2.1), bv (((addS h2T k7 [97, 98] sa9 1).1).s3.2.2.2.2)]) hE rfl rfl hM rfl sz62 (by simp only [List.take_succ_cons, List.take_zero, List.drop_zero, List.drop_succ_cons]; simp only [List.map_cons, List.map_nil, bv_length, List.length_cons, List.length_nil, List.length_replicate, hsl281_4, hsl281_5, hsl281_8, hsl281_9, hsl281_12, hsl281_13, hsl281_14, hsl281_17, hsl281_18, hsl281_19, hsl281_22, hsl281_23, hsl281_24, hsl281_27, hsl281_28, hsl281_29]) (by decide) rfl (one_fl ⟨one1 rfl, one1 rfl, one1 rfl, one1 rfl, bv_one _, bv_one _, one1 rfl, one1 rfl, bv_one _, bv_one _, one1 rfl, one1 rfl, bv_one _, bv_one _, bv_one _, one1 rfl, one1 rfl, bv_one _, bv_one _, bv_one _, one1 rfl, one1 rfl, bv_one _, bv_one _, bv_one _, one1 rfl, one1 rfl, bv_one _, bv_one _, bv_one _, trivial⟩) rfl (by intro X h; cases h) ?_; intro w20 hM'; clear hM; have hM := hM'; clear hM'
  try simp only [List.take_zero, List.take_succ_cons, List.drop_zero, List.drop_succ_cons, List.take_nil, List.drop_nil, List.nil_append, List.append_nil, List.cons_append] at hM
  refine s_assign hE rfl rfl ?_; clear hE a; intro a hE
  refine s_assign hE rfl rfl ?_; clear hE a; intro a hE
  refine q_nil ?_
  replace hE : Env a 196 [(0, _), (1, _), (4, _), (5, _), (7, _), (9, _), (12, _), (74, _)] := hE.sel [0, 1, 4, 5, 7, 9, 12, 74] rfl
  refine hK9 _ _ ?_
  refine wp_seq_k (fun K10 hK10 => ?_)
  refine wp_plain [true, true, true, false, true, true, true, true, false, false, true, true] rfl rfl ?_
  refine s_loadN hE rfl (hM.get 5 rfl) row62 rfl (by intro X h; cases h) rfl ?_; clear hE a; intro a hE
  replace hE := hE.cast 99 rfl (show _ = Value.agg ([[.int .i64 h2T.m], [.int .i64 h2T.r], [.bool h2T.v0.1], [.int .u64 ((h2T.v0.2.1 : Nat) : Int)], bv h2T.v0.2.2.1, bv h2T.v0.2.2.2, [.bool h2T.v1.1], [.int .u64 ((h2T.v1.2.1 : Nat) : Int)], bv h2T.v1.2.2.1, bv h2T.v1.2.2.2, [.bool h2T.s0.1], [.int .i64 h2T.s0.2.1], bv h2T.s0.2.2.1, bv h2T.s0.2.2.2.1, bv h2T.s0.2.2.2.2, [.bool h2T.s1.1], [.int .i64 h2T.s1.2.1], bv h2T.s1.2.2.1, bv h2T.s1.2.2.2.1, bv h2T.s1.2.2.2.2, [.bool h2T.s2.1], [.int .i64 h2T.s2.2.1], bv h2T.s2.2.2.1, bv h2T.s2.2.2.2.1, bv h2T.s2.2.2.2.2, [.bool h2T.s3.1], [.int .i64 h2T.s3.2.1], bv h2T.s3.2.2.1, bv h2T.s3.2.2.2.1, bv h2T.s3.2.2.2.2] : List (List Value)).flatten.toArray from (by first | rfl | simp only [List.flatten_cons, List.flatten_nil, List.append_nil, List.append_assoc]))
  refine s_build (r := .agg (bv [7, 0, 0, 0, 0, 0, 0, 0, 0, 0, 0, 0, 0, 0, 0, 0, 0, 0, 0, 0, 0, 0, 0, 0, 0, 0, 0, 0, 0, 0, 0, 0]).toArray) _ hE rfl (fun w => by kernel_rfl) rfl ?_; clear hE a; intro a hE
  refine s_build (r := .agg (bv [1, 0, 0, 0, 0, 0, 0, 0, 0, 0, 0, 0, 0, 0, 0, 0]).toArray) _ hE rfl (fun w => by kernel_rfl) rfl ?_; clear hE a; intro a hE
  refine s_call hE rfl Tryd.call37 ((by have h := add_c h2T k7 [101, 102] sa1 1 _ (hM.get 6 rfl) (hM.get 7 rfl) h2T_ok (by decide) (by decide) (by unfold In64; decide); rw [ad4T] at h; exact h)) rfl ?_
  rintro e w21 ⟨rfl, hN⟩
  refine ⟨_, rfl, trivial, ?_⟩; clear hE a; intro a hE
  replace hM : Mem _ _ w21 [_, _, _, _, _, _, _, _] := hM.call0 hN trivial; clear hN
  refine s_move hE rfl rfl ?_; clear hE a; intro a hE
  refine s_extract hE rfl rfl rfl ?_; clear hE a; intro a hE
  refine s_extract hE rfl rfl rfl ?_; clear hE a; intro a hE
  refine s_extract hE rfl rfl rfl ?_; clear hE a; intro a hE
  refine s_alloc [1, 1, 1, 1, 32, 32, 1, 1, 32, 32, 1, 1, 16, 32, 32, 1, 1, 16, 32, 32, 1, 1, 16, 32, 32, 1, 1, 16, 32, 32] hE hM zeroL62 rfl rfl ?_; clear hE a; intro a b13 w22 hE hM'
  clear hM; have hM := hM'; clear hM'
  have hsl320_4 : (((addS h2T k7 [101, 102] sa1 1).1).v0.2.2.1).length = 32 := (addS_ok (h := h2T) (x := k7) (p := [101, 102]) (b := sa1) (z := 1) h2T_ok (by unfold In64; decide) (by decide) (by decide)).v0.2.1
  have hsl320_5 : (((addS h2T k7 [101, 102] sa1 1).1).v0.2.2.2).length = 32 := (addS_ok (h := h2T) (x := k7) (p := [101, 102]) (b := sa1) (z := 1) h2T_ok (by unfold In64; decide) (by decide) (by decide)).v0.2.2
  have hsl320_8 : (((addS h2T k7 [101, 102] sa1 1).1).v1.2.2.1).length = 32 := (addS_ok (h := h2T) (x := k7) (p := [101, 102]) (b := sa1) (z := 1) h2T_ok (by unfold In64; decide) (by decide) (by decide)).v1.2.1
  have hsl320_9 : (((addS h2T k7 [101, 102] sa1 1).1).v1.2.2.2).length = 32 := (addS_ok (h := h2T) (x := k7) (p := [101, 102]) (b := sa1) (z := 1) h2T_ok (by unfold In64; decide) (by decide) (by decide)).v1.2.2
  have hsl320_12 : (((addS h2T k7 [101, 102] sa1 1).1).s0.2.2.1).length = 16 := (addS_ok (h := h2T) (x := k7) (p := [101, 102]) (b := sa1) (z := 1) h2T_ok (by unfold In64; decide) (by decide) (by decide)).s0.2.1
  have hsl320_13 : (((addS h2T k7 [101, 102] sa1 1).1).s0.2.2.2.1).length = 32 := (addS_ok (h := h2T) (x := k7) (p := [101, 102]) (b := sa1) (z := 1) h2T_ok (by unfold In64; decide) (by decide) (by decide)).s0.2.2.1
  have hsl320_14 : (((addS h2T k7 [101, 102] sa1 1).1).s0.2.2.2.2).length = 32 := (addS_ok (h := h2T) (x := k7) (p := [101, 102]) (b := sa1) (z := 1) h2T_ok (by unfold In64; decide) (by decide) (by decide)).s0.2.2.2
  have hsl320_17 : (((addS h2T k7 [101, 102] sa1 1).1).s1.2.2.1).length = 16 := (addS_ok (h := h2T) (x := k7) (p := [101, 102]) (b := sa1) (z := 1) h2T_ok (by unfold In64; decide) (by decide) (by decide)).s1.2.1
  have hsl320_18 : (((addS h2T k7 [101, 102] sa1 1).1).s1.2.2.2.1).length = 32 := (addS_ok (h := h2T) (x := k7) (p := [101, 102]) (b := sa1) (z := 1) h2T_ok (by unfold In64; decide) (by decide) (by decide)).s1.2.2.1
  have hsl320_19 : (((addS h2T k7 [101, 102] sa1 1).1).s1.2.2.2.2).length = 32 := (addS_ok (h := h2T) (x := k7) (p := [101, 102]) (b := sa1) (z := 1) h2T_ok (by unfold In64; decide) (by decide) (by decide)).s1.2.2.2
  have hsl320_22 : (((addS h2T k7 [101, 102] sa1 1).1).s2.2.2.1).length = 16 := (addS_ok (h := h2T) (x := k7) (p := [101, 102]) (b := sa1) (z := 1) h2T_ok (by unfold In64; decide) (by decide) (by decide)).s2.2.1
  have hsl320_23 : (((addS h2T k7 [101, 102] sa1 1).1).s2.2.2.2.1).length = 32 := (addS_ok (h := h2T) (x := k7) (p := [101, 102]) (b := sa1) (z := 1) h2T_ok (by unfold In64; decide) (by decide) (by decide)).s2.2.2.1
  have hsl320_24 : (((addS h2T k7 [101, 102] sa1 1).1).s2.2.2.2.2).length = 32 := (addS_ok (h := h2T) (x := k7) (p := [101, 102]) (b := sa1) (z := 1) h2T_ok (by unfold In64; decide) (by decide) (by decide)).s2.2.2.2
  have hsl320_27 : (((addS h2T k7 [101, 102] sa1 1).1).s3.2.2.1).length = 16 := (addS_ok (h := h2T) (x := k7) (p := [101, 102]) (b := sa1) (z := 1) h2T_ok (by unfold In64; decide) (by decide) (by decide)).s3.2.1
  have hsl320_28 : (((addS h2T k7 [101, 102] sa1 1).1).s3.2.2.2.1).length = 32 := (addS_ok (h := h2T) (x := k7) (p := [101, 102]) (b := sa1) (z := 1) h2T_ok (by unfold In64; decide) (by decide) (by decide)).s3.2.2.1
  have hsl320_29 : (((addS h2T k7 [101, 102] sa1 1).1).s3.2.2.2.2).length = 32 := (addS_ok (h := h2T) (x := k7) (p := [101, 102]) (b := sa1) (z := 1) h2T_ok (by unfold In64; decide) (by decide) (by decide)).s3.2.2.2
  refine s_storeSegs 0 30 (vss := [[.int .i64 (((addS h2T k7 [101, 102] sa1 1).1).m)], [.int .i64 (((addS h2T k7 [101, 102] sa1 1).1).r)], [.bool (((addS h2T k7 [101, 102] sa1 1).1).v0.1)], [.int .u64 ((((addS h2T k7 [101, 102] sa1 1).1).v0.2.1 : Nat) : Int)], bv (((addS h2T k7 [101, 102] sa1 1).1).v0.2.2.1), bv (((addS h2T k7 [101, 102] sa1 1).1).v0.2.2.2), [.bool (((addS h2T k7 [101, 102] sa1 1).1).v1.1)], [.int .u64 ((((addS h2T k7 [101, 102] sa1 1).1).v1.2.1 : Nat) : Int)], bv (((addS h2T k7 [101, 102] sa1 1).1).v1.2.2.1), bv (((addS h2T k7 [101, 102] sa1 1).1).v1.2.2.2), [.bool (((addS h2T k7 [101, 102] sa1 1).1).s0.1)], [.int .i64 (((addS h2T k7 [101, 102] sa1 1).1).s0.2.1)], bv (((addS h2T k7 [101, 102] sa1 1).1).s0.2.2.1), bv (((addS h2T k7 [101, 102] sa1 1).1).s0.2.2.2.1), bv (((addS h2T k7 [101, 102] sa1 1).1).s0.2.2.2.2), [.bool (((addS h2T k7 [101, 102] sa1 1).1).s1.1)], [.int .i64 (((addS h2T k7 [101, 102] sa1 1).1).s1.2.1)], bv (((addS h2T k7 [101, 102] sa1 1).1).s1.2.2.1), bv (((addS h2T k7 [101, 102] sa1 1).1).s1.2.2.2.1), bv (((addS h2T k7 [101, 102] sa1 1).1).s1.2.2.2.2), [.bool (((addS h2T k7 [101, 102] sa1 1).1).s2.1)], [.int .i64 (((addS h2T k7 [101, 102] sa1 1).1).s2.2.1)], bv (((addS h2T k7 [101, 102] sa1 1).1).s2.2.2.1), bv (((addS h2T k7 [101, 102] sa1 1).1).s2.2.2.2.1), bv (((addS h2T k7 [101, 102] sa1 1).1).s2.2.2.2.2), [.bool (((addS h2T k7 [101, 102] sa1 1).1).s3.1)], [.int .i64 (((addS h2T k7 [101, 102] sa1 1).1).s3.2.1)], bv (((addS h2T k7 [101, 102] sa1 1).1).s3.2.2.1), bv (((addS h2T k7 [101, 102] sa1 1).1).s3.2.2.2.1), bv (((addS h2T k7 [101, 102] sa1 1).1).s3.2.2.2.2)]) hE rfl rfl hM rfl sz62 (by simp only [List.take_succ_cons, List.take_zero, List.drop_zero, List.drop_succ_cons]; simp only [List.map_cons, List.map_nil, bv_length, List.length_cons, List.length_nil, List.length_replicate, hsl320_4, hsl320_5, hsl320_8, hsl320_9, hsl320_12, hsl320_13, hsl320_14, hsl320_17, hsl320_18, hsl320_19, hsl320_22, hsl320_23, hsl320_24, hsl320_27, hsl320_28, hsl320_29]) (by decide) rfl (one_fl ⟨one1 rfl, one1 rfl, one1 rfl, one1 rfl, bv_one _, bv_one _, one1 rfl, one1 rfl, bv_one _, bv_one _, one1 rfl, one1 rfl, bv_one _, bv_one _, bv_one _, one1 rfl, one1 rfl, bv_one _, bv_one _, bv_one _, one1 rfl, one1 rfl, bv_one _, bv_one _, bv_one _, one1 rfl, one1 rfl, bv_one _, bv_one _, bv_one _, trivial⟩) rfl (by intro X h; cases h) ?_; intro w23 hM'; clear hM; have hM := hM'; clear hM'
  try simp only [List.take_zero, List.take_succ_cons, List.drop_zero, List.drop_succ_cons, List.take_nil, List.drop_nil, List.nil_append, List.append_nil, List.cons_append] at hM
  refine s_assign hE rfl rfl ?_; clear hE a; intro a hE
  refine s_assign hE rfl rfl ?_; clear hE a; intro a hE
  refine q_nil ?_
  replace hE : Env a 196 [(0, _), (1, _), (4, _), (5, _), (7, _), (9, _), (12, _), (15, _), (74, _)] := hE.sel [0, 1, 4, 5, 7, 9, 12, 15, 74] rfl
  refine hK10 _ _ ?_
  refine wp_seq_k (fun K11 hK11 => ?_)
  refine wp_plain [false, true, true, false, true, true, true, true, false, false, true, true] rfl rfl ?_
  refine s_call hE rfl Tryd.call38 (empty25_c  _ ) rfl ?_
  rintro e w24 ⟨rfl, hN⟩
  refine ⟨_, rfl, trivial, ?_⟩; clear hE a; intro a hE
  replace hM : Mem _ _ w24 [_, _, _, _, _, _, _, _, _] := hM.call0 hN trivial; clear hN
  refine s_build (r := .agg (bv [7, 0, 0, 0, 0, 0, 0, 0, 0, 0, 0, 0, 0, 0, 0, 0, 0, 0, 0, 0, 0, 0, 0, 0, 0, 0, 0, 0, 0, 0, 0, 0]).toArray) _ hE rfl (fun w => by kernel_rfl) rfl ?_; clear hE a; intro a hE
  refine s_build (r := .agg (bv [1, 0, 0, 0, 0, 0, 0, 0, 0, 0, 0, 0, 0, 0, 0, 0]).toArray) _ hE rfl (fun w => by kernel_rfl) rfl ?_; clear hE a; intro a hE
  refine s_call hE rfl Tryd.call37 ((by have h := add_c emptyH k7 [97, 98] sa1 0 _ (hM.get 7 rfl) (hM.get 8 rfl) emptyH_ok (by decide) (by decide) (by unfold In64; decide); rw [ad5T] at h; exact h)) rfl ?_
  rintro e w25 ⟨rfl, hN⟩
  refine ⟨_, rfl, trivial, ?_⟩; clear hE a; intro a hE
  replace hM : Mem _ _ w25 [_, _, _, _, _, _, _, _, _] := hM.call0 hN trivial; clear hN
  refine s_move hE rfl rfl ?_; clear hE a; intro a hE
  refine s_extract hE rfl rfl rfl ?_; clear hE a; intro a hE
  refine s_extract hE rfl rfl rfl ?_; clear hE a; intro a hE
  refine s_extract hE rfl rfl rfl ?_; clear hE a; intro a hE
  refine s_alloc [1, 1, 1, 1, 32, 32, 1, 1, 32, 32, 1, 1, 16, 32, 32, 1, 1, 16, 32, 32, 1, 1, 16, 32, 32, 1, 1, 16, 32, 32] hE hM zeroL62 rfl rfl ?_; clear hE a; intro a b16 w26 hE hM'
  clear hM; have hM := hM'; clear hM'
  have hsl361_4 : (((addS emptyH k7 [97, 98] sa1 0).1).v0.2.2.1).length = 32 := (addS_ok (h := emptyH) (x := k7) (p := [97, 98]) (b := sa1) (z := 0) emptyH_ok (by unfold In64; decide) (by decide) (by decide)).v0.2.1
  have hsl361_5 : (((addS emptyH k7 [97, 98] sa1 0).1).v0.2.2.2).length = 32 := (addS_ok (h := emptyH) (x := k7) (p := [97, 98]) (b := sa1) (z := 0) emptyH_ok (by unfold In64; decide) (by decide) (by decide)).v0.2.2
  have hsl361_8 : (((addS emptyH k7 [97, 98] sa1 0).1).v1.2.2.1).length = 32 := (addS_ok (h := emptyH) (x := k7) (p := [97, 98]) (b := sa1) (z := 0) emptyH_ok (by unfold In64; decide) (by decide) (by decide)).v1.2.1
  have hsl361_9 : (((addS emptyH k7 [97, 98] sa1 0).1).v1.2.2.2).length = 32 := (addS_ok (h := emptyH) (x := k7) (p := [97, 98]) (b := sa1) (z := 0) emptyH_ok (by unfold In64; decide) (by decide) (by decide)).v1.2.2
  have hsl361_12 : (((addS emptyH k7 [97, 98] sa1 0).1).s0.2.2.1).length = 16 := (addS_ok (h := emptyH) (x := k7) (p := [97, 98]) (b := sa1) (z := 0) emptyH_ok (by unfold In64; decide) (by decide) (by decide)).s0.2.1
  have hsl361_13 : (((addS emptyH k7 [97, 98] sa1 0).1).s0.2.2.2.1).length = 32 := (addS_ok (h := emptyH) (x := k7) (p := [97, 98]) (b := sa1) (z := 0) emptyH_ok (by unfold In64; decide) (by decide) (by decide)).s0.2.2.1
  have hsl361_14 : (((addS emptyH k7 [97, 98] sa1 0).1).s0.2.2.2.2).length = 32 := (addS_ok (h := emptyH) (x := k7) (p := [97, 98]) (b := sa1) (z := 0) emptyH_ok (by unfold In64; decide) (by decide) (by decide)).s0.2.2.2
  have hsl361_17 : (((addS emptyH k7 [97, 98] sa1 0).1).s1.2.2.1).length = 16 := (addS_ok (h := emptyH) (x := k7) (p := [97, 98]) (b := sa1) (z := 0) emptyH_ok (by unfold In64; decide) (by decide) (by decide)).s1.2.1
  have hsl361_18 : (((addS emptyH k7 [97, 98] sa1 0).1).s1.2.2.2.1).length = 32 := (addS_ok (h := emptyH) (x := k7) (p := [97, 98]) (b := sa1) (z := 0) emptyH_ok (by unfold In64; decide) (by decide) (by decide)).s1.2.2.1
  have hsl361_19 : (((addS emptyH k7 [97, 98] sa1 0).1).s1.2.2.2.2).length = 32 := (addS_ok (h := emptyH) (x := k7) (p := [97, 98]) (b := sa1) (z := 0) emptyH_ok (by unfold In64; decide) (by decide) (by decide)).s1.2.2.2
  have hsl361_22 : (((addS emptyH k7 [97, 98] sa1 0).1).s2.2.2.1).length = 16 := (addS_ok (h := emptyH) (x := k7) (p := [97, 98]) (b := sa1) (z := 0) emptyH_ok (by unfold In64; decide) (by decide) (by decide)).s2.2.1
  have hsl361_23 : (((addS emptyH k7 [97, 98] sa1 0).1).s2.2.2.2.1).length = 32 := (addS_ok (h := emptyH) (x := k7) (p := [97, 98]) (b := sa1) (z := 0) emptyH_ok (by unfold In64; decide) (by decide) (by decide)).s2.2.2.1
  have hsl361_24 : (((addS emptyH k7 [97, 98] sa1 0).1).s2.2.2.2.2).length = 32 := (addS_ok (h := emptyH) (x := k7) (p := [97, 98]) (b := sa1) (z := 0) emptyH_ok (by unfold In64; decide) (by decide) (by decide)).s2.2.2.2
  have hsl361_27 : (((addS emptyH k7 [97, 98] sa1 0).1).s3.2.2.1).length = 16 := (addS_ok (h := emptyH) (x := k7) (p := [97, 98]) (b := sa1) (z := 0) emptyH_ok (by unfold In64; decide) (by decide) (by decide)).s3.2.1
  have hsl361_28 : (((addS emptyH k7 [97, 98] sa1 0).1).s3.2.2.2.1).length = 32 := (addS_ok (h := emptyH) (x := k7) (p := [97, 98]) (b := sa1) (z := 0) emptyH_ok (by unfold In64; decide) (by decide) (by decide)).s3.2.2.1
  have hsl361_29 : (((addS emptyH k7 [97, 98] sa1 0).1).s3.2.2.2.2).length = 32 := (addS_ok (h := emptyH) (x := k7) (p := [97, 98]) (b := sa1) (z := 0) emptyH_ok (by unfold In64; decide) (by decide) (by decide)).s3.2.2.2
  refine s_storeSegs 0 30 (vss := [[.int .i64 (((addS emptyH k7 [97, 98] sa1 0).1).m)], [.int .i64 (((addS emptyH k7 [97, 98] sa1 0).1).r)], [.bool (((addS emptyH k7 [97, 98] sa1 0).1).v0.1)], [.int .u64 ((((addS emptyH k7 [97, 98] sa1 0).1).v0.2.1 : Nat) : Int)], bv (((addS emptyH k7 [97, 98] sa1 0).1).v0.2.2.1), bv (((addS emptyH k7 [97, 98] sa1 0).1).v0.2.2.2), [.bool (((addS emptyH k7 [97, 98] sa1 0).1).v1.1)], [.int .u64 ((((addS emptyH k7 [97, 98] sa1 0).1).v1.2.1 : Nat) : Int)], bv (((addS emptyH k7 [97, 98] sa1 0).1).v1.2.2.1), bv (((addS emptyH k7 [97, 98] sa1 0).1).v1.2.2.2), [.bool (((addS emptyH k7 [97, 98] sa1 0).1).s0.1)], [.int .i64 (((addS emptyH k7 [97, 98] sa1 0).1).s0.2.1)], bv (((addS emptyH k7 [97, 98] sa1 0).1).s0.2.2.1), bv (((addS emptyH k7 [97, 98] sa1 0).1).s0.2.2.2.1), bv (((addS emptyH k7 [97, 98] sa1 0).1).s0.2.2.2.2), [.bool (((addS emptyH k7 [97, 98] sa1 0).1).s1.1)], [.int .i64 (((addS emptyH k7 [97, 98] sa1 0).1).s1.2.1)], bv (((addS emptyH k7 [97, 98] sa1 0).1).s1.2.2.1), bv (((addS emptyH k7 [97, 98] sa1 0).1).s1.2.2.2.1), bv (((addS emptyH k7 [97, 98] sa1 0).1).s1.2.2.2.2), [.bool (((addS emptyH k7 [97, 98] sa1 0).1).s2.1)], [.int .i64 (((addS emptyH k7 [97, 98] sa1 0).1).s2.2.1)], bv (((addS emptyH k7 [97, 98] sa1 0).1).s2.2.2.1), bv (((addS emptyH k7 [97, 98] sa1 0).1).s2.2.2.2.1), bv (((addS emptyH k7 [97, 98] sa1 0).1).s2.2.2.2.2), [.bool (((addS emptyH k7 [97, 98] sa1 0).1).s3.1)], [.int .i64 (((addS emptyH k7 [97, 98] sa1 0).1).s3.2.1)], bv (((addS emptyH k7 [97, 98] sa1 0).1).s3.2.2.1), bv (((addS emptyH k7 [97, 98] sa1 0).1).s3.2.2.2.1), bv (((addS emptyH k7 [97, 98] sa1 0).1).s3.2.2.2.2)]) hE rfl rfl hM rfl sz62 (by simp only [List.take_succ_cons, List.take_zero, List.drop_zero, List.drop_succ_cons]; simp only [List.map_cons, List.map_nil, bv_length, List.length_cons, List.length_nil, List.length_replicate, hsl361_4, hsl361_5, hsl361_8, hsl361_9, hsl361_12, hsl361_13, hsl361_14, hsl361_17, hsl361_18, hsl361_19, hsl361_22, hsl361_23, hsl361_24, hsl361_27, hsl361_28, hsl361_29]) (by decide) rfl (one_fl ⟨one1 rfl, one1 rfl, one1 rfl, one1 rfl, bv_one _, bv_one _, one1 rfl, one1 rfl, bv_one _, bv_one _, one1 rfl, one1 rfl, bv_one _, bv_one _, bv_one _, one1 rfl, one1 rfl, bv_one _, bv_one _, bv_one _, one1 rfl, one1 rfl, bv_one _, bv_one _, bv_one _, one1 rfl, one1 rfl, bv_one _, bv_one _, bv_one _, trivial⟩) rfl (by intro X h; cases h) ?_; intro w27 hM'; clear hM; have hM := hM'; clear hM'
  try simp only [List.take_zero, List.take_succ_cons, List.drop_zero, List.drop_succ_cons, List.take_nil, List.drop_nil, List.nil_append, List.append_nil, List.cons_append] at hM
  refine s_assign hE rfl rfl ?_; clear hE a; intro a hE
  refine s_assign hE rfl rfl ?_; clear hE a; intro a hE
  refine q_nil ?_
  replace hE : Env a 196 [(0, _), (1, _), (4, _), (5, _), (7, _), (9, _), (12, _), (15, _), (18, _), (74, _)] := hE.sel [0, 1, 4, 5, 7, 9, 12, 15, 18, 74] rfl
  refine hK11 _ _ ?_
  refine wp_seq_k (fun K12 hK12 => ?_)
  refine wp_plain [true, true, true, false, true, true, true, true, false, false, true, true] rfl rfl ?_
  refine s_loadN hE rfl (hM.get 5 rfl) row62 rfl (by intro X h; cases h) rfl ?_; clear hE a; intro a hE
  replace hE := hE.cast 115 rfl (show _ = Value.agg ([[.int .i64 gT.m], [.int .i64 gT.r], [.bool gT.v0.1], [.int .u64 ((gT.v0.2.1 : Nat) : Int)], bv gT.v0.2.2.1, bv gT.v0.2.2.2, [.bool gT.v1.1], [.int .u64 ((gT.v1.2.1 : Nat) : Int)], bv gT.v1.2.2.1, bv gT.v1.2.2.2, [.bool gT.s0.1], [.int .i64 gT.s0.2.1], bv gT.s0.2.2.1, bv gT.s0.2.2.2.1, bv gT.s0.2.2.2.2, [.bool gT.s1.1], [.int .i64 gT.s1.2.1], bv gT.s1.2.2.1, bv gT.s1.2.2.2.1, bv gT.s1.2.2.2.2, [.bool gT.s2.1], [.int .i64 gT.s2.2.1], bv gT.s2.2.2.1, bv gT.s2.2.2.2.1, bv gT.s2.2.2.2.2, [.bool gT.s3.1], [.int .i64 gT.s3.2.1], bv gT.s3.2.2.1, bv gT.s3.2.2.2.1, bv gT.s3.2.2.2.2] : List (List Value)).flatten.toArray from (by first | rfl | simp only [List.flatten_cons, List.flatten_nil, List.append_nil, List.append_assoc]))
  refine s_build (r := .agg (bv [7, 0, 0, 0, 0, 0, 0, 0, 0, 0, 0, 0, 0, 0, 0, 0, 0, 0, 0, 0, 0, 0, 0, 0, 0, 0, 0, 0, 0, 0, 0, 0]).toArray) _ hE rfl (fun w => by kernel_rfl) rfl ?_; clear hE a; intro a hE
  refine s_build (r := .agg (bv [1, 0, 0, 0, 0, 0, 0, 0, 0, 0, 0, 0, 0, 0, 0, 0]).toArray) _ hE rfl (fun w => by kernel_rfl) rfl ?_; clear hE a; intro a hE
  refine s_call hE rfl Tryd.call37 ((by have h := add_c gT k7 [101, 102] sa1 1 _ (hM.get 8 rfl) (hM.get 9 rfl) gT_ok (by decide) (by decide) (by unfold In64; decide); rw [ad6T] at h; exact h)) rfl ?_
  rintro e w28 ⟨rfl, hN⟩
  refine ⟨_, rfl, trivial, ?_⟩; clear hE a; intro a hE
  replace hM : Mem _ _ w28 [_, _, _, _, _, _, _, _, _, _] := hM.call0 hN trivial; clear hN
  refine s_move hE rfl rfl ?_; clear hE a; intro a hE
  refine s_extract hE rfl rfl rfl ?_; clear hE a; intro a hE
  refine s_extract hE rfl rfl rfl ?_; clear hE a; intro a hE
  refine s_extract hE rfl rfl rfl ?_; clear hE a; intro a hE
  refine s_alloc [1, 1, 1, 1, 32, 32, 1, 1, 32, 32, 1, 1, 16, 32, 32, 1, 1, 16, 32, 32, 1, 1, 16, 32, 32, 1, 1, 16, 32, 32] hE hM zeroL62 rfl rfl ?_; clear hE a; intro a b19 w29 hE hM'
  clear hM; have hM := hM'; clear hM'
  have hsl400_4 : hnT.v0.2.2.1.length = 32 := hnT_ok.v0.2.1
  have hsl400_5 : hnT.v0.2.2.2.length = 32 := hnT_ok.v0.2.2
  have hsl400_8 : hnT.v1.2.2.1.length = 32 := hnT_ok.v1.2.1
  have hsl400_9 : hnT.v1.2.2.2.length = 32 := hnT_ok.v1.2.2
  have hsl400_12 : hnT.s0.2.2.1.length = 16 := hnT_ok.s0.2.1
  have hsl400_13 : hnT.s0.2.2.2.1.length = 32 := hnT_ok.s0.2.2.1
  have hsl400_14 : hnT.s0.2.2.2.2.length = 32 := hnT_ok.s0.2.2.2
  have hsl400_17 : hnT.s1.2.2.1.length = 16 := hnT_ok.s1.2.1
  have hsl400_18 : hnT.s1.2.2.2.1.length = 32 := hnT_ok.s1.2.2.1
  have hsl400_19 : hnT.s1.2.2.2.2.length = 32 := hnT_ok.s1.2.2.2
  have hsl400_22 : hnT.s2.2.2.1.length = 16 := hnT_ok.s2.2.1
  have hsl400_23 : hnT.s2.2.2.2.1.length = 32 := hnT_ok.s2.2.2.1
  have hsl400_24 : hnT.s2.2.2.2.2.length = 32 := hnT_ok.s2.2.2.2
  have hsl400_27 : hnT.s3.2.2.1.length = 16 := hnT_ok.s3.2.1
  have hsl400_28 : hnT.s3.2.2.2.1.length = 32 := hnT_ok.s3.2.2.1
  have hsl400_29 : hnT.s3.2.2.2.2.length = 32 := hnT_ok.s3.2.2.2
  refine s_storeSegs 0 30 (vss := [[.int .i64 hnT.m], [.int .i64 hnT.r], [.bool hnT.v0.1], [.int .u64 ((hnT.v0.2.1 : Nat) : Int)], bv hnT.v0.2.2.1, bv hnT.v0.2.2.2, [.bool hnT.v1.1], [.int .u64 ((hnT.v1.2.1 : Nat) : Int)], bv hnT.v1.2.2.1, bv hnT.v1.2.2.2, [.bool hnT.s0.1], [.int .i64 hnT.s0.2.1], bv hnT.s0.2.2.1, bv hnT.s0.2.2.2.1, bv hnT.s0.2.2.2.2, [.bool hnT.s1.1], [.int .i64 hnT.s1.2.1], bv hnT.s1.2.2.1, bv hnT.s1.2.2.2.1, bv hnT.s1.2.2.2.2, [.bool hnT.s2.1], [.int .i64 hnT.s2.2.1], bv hnT.s2.2.2.1, bv hnT.s2.2.2.2.1, bv hnT.s2.2.2.2.2, [.bool hnT.s3.1], [.int .i64 hnT.s3.2.1], bv hnT.s3.2.2.1, bv hnT.s3.2.2.2.1, bv hnT.s3.2.2.2.2]) hE rfl rfl hM rfl sz62 (by simp only [List.take_succ_cons, List.take_zero, List.drop_zero, List.drop_succ_cons]; simp only [List.map_cons, List.map_nil, bv_length, List.length_cons, List.length_nil, List.length_replicate, hsl400_4, hsl400_5, hsl400_8, hsl400_9, hsl400_12, hsl400_13, hsl400_14, hsl400_17, hsl400_18, hsl400_19, hsl400_22, hsl400_23, hsl400_24, hsl400_27, hsl400_28, hsl400_29]) (by decide) rfl (one_fl ⟨one1 rfl, one1 rfl, one1 rfl, one1 rfl, bv_one _, bv_one _, one1 rfl, one1 rfl, bv_one _, bv_one _, one1 rfl, one1 rfl, bv_one _, bv_one _, bv_one _, one1 rfl, one1 rfl, bv_one _, bv_one _, bv_one _, one1 rfl, one1 rfl, bv_one _, bv_one _, bv_one _, one1 rfl, one1 rfl, bv_one _, bv_one _, bv_one _, trivial⟩) rfl (by intro X h; cases h) ?_; intro w30 hM'; clear hM; have hM := hM'; clear hM'
  try simp only [List.take_zero, List.take_succ_cons, List.drop_zero, List.drop_succ_cons, List.take_nil, List.drop_nil, List.nil_append, List.append_nil, List.cons_append] at hM
  refine s_assign hE rfl rfl ?_; clear hE a; intro a hE
  refine s_assign hE rfl rfl ?_; clear hE a; intro a hE
  refine q_nil ?_
  replace hE : Env a 196 [(0, _), (1, _), (4, _), (5, _), (7, _), (9, _), (12, _), (15, _), (18, _), (19, _), (20, _), (21, _), (74, _)] := hE.sel [0, 1, 4, 5, 7, 9, 12, 15, 18, 19, 20, 21, 74] rfl
  refine hK12 _ _ ?_
  refine wp_seq_k (fun K13 hK13 => ?_)
  refine wp_plain [true, true, true, false, true, true, true, true, false, false, true, true] rfl rfl ?_
  refine s_loadN hE rfl (hM.get 0 rfl) row62 rfl (by intro X h; cases h) rfl ?_; clear hE a; intro a hE
  replace hE := hE.cast 123 rfl (show _ = Value.agg ([[.int .i64 hnT.m], [.int .i64 hnT.r], [.bool hnT.v0.1], [.int .u64 ((hnT.v0.2.1 : Nat) : Int)], bv hnT.v0.2.2.1, bv hnT.v0.2.2.2, [.bool hnT.v1.1], [.int .u64 ((hnT.v1.2.1 : Nat) : Int)], bv hnT.v1.2.2.1, bv hnT.v1.2.2.2, [.bool hnT.s0.1], [.int .i64 hnT.s0.2.1], bv hnT.s0.2.2.1, bv hnT.s0.2.2.2.1, bv hnT.s0.2.2.2.2, [.bool hnT.s1.1], [.int .i64 hnT.s1.2.1], bv hnT.s1.2.2.1, bv hnT.s1.2.2.2.1, bv hnT.s1.2.2.2.2, [.bool hnT.s2.1], [.int .i64 hnT.s2.2.1], bv hnT.s2.2.2.1, bv hnT.s2.2.2.2.1, bv hnT.s2.2.2.2.2, [.bool hnT.s3.1], [.int .i64 hnT.s3.2.1], bv hnT.s3.2.2.1, bv hnT.s3.2.2.2.1, bv hnT.s3.2.2.2.2] : List (List Value)).flatten.toArray from (by first | rfl | simp only [List.flatten_cons, List.flatten_nil, List.append_nil, List.append_assoc]))
  refine s_build (r := .agg (bv [7, 0, 0, 0, 0, 0, 0, 0, 0, 0, 0, 0, 0, 0, 0, 0, 0, 0, 0, 0, 0, 0, 0, 0, 0, 0, 0, 0, 0, 0, 0, 0]).toArray) _ hE rfl (fun w => by kernel_rfl) rfl ?_; clear hE a; intro a hE
  refine s_build (r := .agg (bv [3, 0, 0, 0, 0, 0, 0, 0, 0, 0, 0, 0, 0, 0, 0, 0]).toArray) _ hE rfl (fun w => by kernel_rfl) rfl ?_; clear hE a; intro a hE
  refine s_call hE rfl Tryd.call37 ((by have h := add_c hnT k7 [103, 104] sa3 1 _ (hM.get 9 rfl) (hM.get 10 rfl) hnT_ok (by decide) (by decide) (by unfold In64; decide); rw [ad7T] at h; exact h)) rfl ?_
  rintro e w31 ⟨rfl, hN⟩
  refine ⟨_, rfl, trivial, ?_⟩; clear hE a; intro a hE
  replace hM : Mem _ _ w31 [_, _, _, _, _, _, _, _, _, _, _] := hM.call0 hN trivial; clear hN
  refine s_move hE rfl rfl ?_; clear hE a; intro a hE
  refine s_extract hE rfl rfl rfl ?_; clear hE a; intro a hE
  refine s_extract hE rfl rfl rfl ?_; clear hE a; intro a hE
  refine s_extract hE rfl rfl rfl ?_; clear hE a; intro a hE
  refine s_alloc [1, 1, 1, 1, 32, 32, 1, 1, 32, 32, 1, 1, 16, 32, 32, 1, 1, 16, 32, 32, 1, 1, 16, 32, 32, 1, 1, 16, 32, 32] hE hM zeroL62 rfl rfl ?_; clear hE a; intro a b22 w32 hE hM'
  clear hM; have hM := hM'; clear hM'
  have hsl439_4 : hqT.v0.2.2.1.length = 32 := hqT_ok.v0.2.1
  have hsl439_5 : hqT.v0.2.2.2.length = 32 := hqT_ok.v0.2.2
  have hsl439_8 : hqT.v1.2.2.1.length = 32 := hqT_ok.v1.2.1
  have hsl439_9 : hqT.v1.2.2.2.length = 32 := hqT_ok.v1.2.2
  have hsl439_12 : hqT.s0.2.2.1.length = 16 := hqT_ok.s0.2.1
  have hsl439_13 : hqT.s0.2.2.2.1.length = 32 := hqT_ok.s0.2.2.1
  have hsl439_14 : hqT.s0.2.2.2.2.length = 32 := hqT_ok.s0.2.2.2
  have hsl439_17 : hqT.s1.2.2.1.length = 16 := hqT_ok.s1.2.1
  have hsl439_18 : hqT.s1.2.2.2.1.length = 32 := hqT_ok.s1.2.2.1
  have hsl439_19 : hqT.s1.2.2.2.2.length = 32 := hqT_ok.s1.2.2.2
  have hsl439_22 : hqT.s2.2.2.1.length = 16 := hqT_ok.s2.2.1
  have hsl439_23 : hqT.s2.2.2.2.1.length = 32 := hqT_ok.s2.2.2.1
  have hsl439_24 : hqT.s2.2.2.2.2.length = 32 := hqT_ok.s2.2.2.2
  have hsl439_27 : hqT.s3.2.2.1.length = 16 := hqT_ok.s3.2.1
  have hsl439_28 : hqT.s3.2.2.2.1.length = 32 := hqT_ok.s3.2.2.1
  have hsl439_29 : hqT.s3.2.2.2.2.length = 32 := hqT_ok.s3.2.2.2
  refine s_storeSegs 0 30 (vss := [[.int .i64 hqT.m], [.int .i64 hqT.r], [.bool hqT.v0.1], [.int .u64 ((hqT.v0.2.1 : Nat) : Int)], bv hqT.v0.2.2.1, bv hqT.v0.2.2.2, [.bool hqT.v1.1], [.int .u64 ((hqT.v1.2.1 : Nat) : Int)], bv hqT.v1.2.2.1, bv hqT.v1.2.2.2, [.bool hqT.s0.1], [.int .i64 hqT.s0.2.1], bv hqT.s0.2.2.1, bv hqT.s0.2.2.2.1, bv hqT.s0.2.2.2.2, [.bool hqT.s1.1], [.int .i64 hqT.s1.2.1], bv hqT.s1.2.2.1, bv hqT.s1.2.2.2.1, bv hqT.s1.2.2.2.2, [.bool hqT.s2.1], [.int .i64 hqT.s2.2.1], bv hqT.s2.2.2.1, bv hqT.s2.2.2.2.1, bv hqT.s2.2.2.2.2, [.bool hqT.s3.1], [.int .i64 hqT.s3.2.1], bv hqT.s3.2.2.1, bv hqT.s3.2.2.2.1, bv hqT.s3.2.2.2.2]) hE rfl rfl hM rfl sz62 (by simp only [List.take_succ_cons, List.take_zero, List.drop_zero, List.drop_succ_cons]; simp only [List.map_cons, List.map_nil, bv_length, List.length_cons, List.length_nil, List.length_replicate, hsl439_4, hsl439_5, hsl439_8, hsl439_9, hsl439_12, hsl439_13, hsl439_14, hsl439_17, hsl439_18, hsl439_19, hsl439_22, hsl439_23, hsl439_24, hsl439_27, hsl439_28, hsl439_29]) (by decide) rfl (one_fl ⟨one1 rfl, one1 rfl, one1 rfl, one1 rfl, bv_one _, bv_one _, one1 rfl, one1 rfl, bv_one _, bv_one _, one1 rfl, one1 rfl, bv_one _, bv_one _, bv_one _, one1 rfl, one1 rfl, bv_one _, bv_one _, bv_one _, one1 rfl, one1 rfl, bv_one _, bv_one _, bv_one _, one1 rfl, one1 rfl, bv_one _, bv_one _, bv_one _, trivial⟩) rfl (by intro X h; cases h) ?_; intro w33 hM'; clear hM; have hM := hM'; clear hM'
  try simp only [List.take_zero, List.take_succ_cons, List.drop_zero, List.drop_succ_cons, List.take_nil, List.drop_nil, List.nil_append, List.append_nil, List.cons_append] at hM
  refine s_assign hE rfl rfl ?_; clear hE a; intro a hE
  refine s_assign hE rfl rfl ?_; clear hE a; intro a hE
  refine q_nil ?_
  replace hE : Env a 196 [(0, _), (1, _), (4, _), (5, _), (7, _), (9, _), (12, _), (15, _), (18, _), (19, _), (20, _), (21, _), (22, _), (24, _), (74, _)] := hE.sel [0, 1, 4, 5, 7, 9, 12, 15, 18, 19, 20, 21, 22, 24, 74] rfl
  refine hK13 _ _ ?_
  refine wp_seq_k (fun K14 hK14 => ?_)
  refine wp_plain [true, true, true, false, true, true, true, true, false, false, true, true] rfl rfl ?_
  refine s_loadN hE rfl (hM.get 0 rfl) row62 rfl (by intro X h; cases h) rfl ?_; clear hE a; intro a hE
  replace hE := hE.cast 131 rfl (show _ = Value.agg ([[.int .i64 hqT.m], [.int .i64 hqT.r], [.bool hqT.v0.1], [.int .u64 ((hqT.v0.2.1 : Nat) : Int)], bv hqT.v0.2.2.1, bv hqT.v0.2.2.2, [.bool hqT.v1.1], [.int .u64 ((hqT.v1.2.1 : Nat) : Int)], bv hqT.v1.2.2.1, bv hqT.v1.2.2.2, [.bool hqT.s0.1], [.int .i64 hqT.s0.2.1], bv hqT.s0.2.2.1, bv hqT.s0.2.2.2.1, bv hqT.s0.2.2.2.2, [.bool hqT.s1.1], [.int .i64 hqT.s1.2.1], bv hqT.s1.2.2.1, bv hqT.s1.2.2.2.1, bv hqT.s1.2.2.2.2, [.bool hqT.s2.1], [.int .i64 hqT.s2.2.1], bv hqT.s2.2.2.1, bv hqT.s2.2.2.2.1, bv hqT.s2.2.2.2.2, [.bool hqT.s3.1], [.int .i64 hqT.s3.2.1], bv hqT.s3.2.2.1, bv hqT.s3.2.2.2.1, bv hqT.s3.2.2.2.2] : List (List Value)).flatten.toArray from (by first | rfl | simp only [List.flatten_cons, List.flatten_nil, List.append_nil, List.append_assoc]))
  refine s_build (r := .agg (bv [7, 0, 0, 0, 0, 0, 0, 0, 0, 0, 0, 0, 0, 0, 0, 0, 0, 0, 0, 0, 0, 0, 0, 0, 0, 0, 0, 0, 0, 0, 0, 0]).toArray) _ hE rfl (fun w => by kernel_rfl) rfl ?_; clear hE a; intro a hE
  refine s_build (r := .agg (bv [4, 0, 0, 0, 0, 0, 0, 0, 0, 0, 0, 0, 0, 0, 0, 0]).toArray) _ hE rfl (fun w => by kernel_rfl) rfl ?_; clear hE a; intro a hE
  refine s_call hE rfl Tryd.call37 ((by have h := add_c hqT k7 [105, 106] sa4 1 _ (hM.get 10 rfl) (hM.get 11 rfl) hqT_ok (by decide) (by decide) (by unfold In64; decide); rw [ad8T] at h; exact h)) rfl ?_
  rintro e w34 ⟨rfl, hN⟩
  refine ⟨_, rfl, trivial, ?_⟩; clear hE a; intro a hE
  replace hM : Mem _ _ w34 [_, _, _, _, _, _, _, _, _, _, _, _] := hM.call0 hN trivial; clear hN
  refine s_move hE rfl rfl ?_; clear hE a; intro a hE
  refine s_extract hE rfl rfl rfl ?_; clear hE a; intro a hE
  refine s_extract hE rfl rfl rfl ?_; clear hE a; intro a hE
  refine s_extract hE rfl rfl rfl ?_; clear hE a; intro a hE
  refine s_alloc [1, 1, 1, 1, 32, 32, 1, 1, 32, 32, 1, 1, 16, 32, 32, 1, 1, 16, 32, 32, 1, 1, 16, 32, 32, 1, 1, 16, 32, 32] hE hM zeroL62 rfl rfl ?_; clear hE a; intro a b25 w35 hE hM'
  clear hM; have hM := hM'; clear hM'
  have hsl478_4 : hsT.v0.2.2.1.length = 32 := hsT_ok.v0.2.1
  have hsl478_5 : hsT.v0.2.2.2.length = 32 := hsT_ok.v0.2.2
  have hsl478_8 : hsT.v1.2.2.1.length = 32 := hsT_ok.v1.2.1
  have hsl478_9 : hsT.v1.2.2.2.length = 32 := hsT_ok.v1.2.2
  have hsl478_12 : hsT.s0.2.2.1.length = 16 := hsT_ok.s0.2.1
  have hsl478_13 : hsT.s0.2.2.2.1.length = 32 := hsT_ok.s0.2.2.1
  have hsl478_14 : hsT.s0.2.2.2.2.length = 32 := hsT_ok.s0.2.2.2
  have hsl478_17 : hsT.s1.2.2.1.length = 16 := hsT_ok.s1.2.1
  have hsl478_18 : hsT.s1.2.2.2.1.length = 32 := hsT_ok.s1.2.2.1
  have hsl478_19 : hsT.s1.2.2.2.2.length = 32 := hsT_ok.s1.2.2.2
  have hsl478_22 : hsT.s2.2.2.1.length = 16 := hsT_ok.s2.2.1
  have hsl478_23 : hsT.s2.2.2.2.1.length = 32 := hsT_ok.s2.2.2.1
  have hsl478_24 : hsT.s2.2.2.2.2.length = 32 := hsT_ok.s2.2.2.2
  have hsl478_27 : hsT.s3.2.2.1.length = 16 := hsT_ok.s3.2.1
  have hsl478_28 : hsT.s3.2.2.2.1.length = 32 := hsT_ok.s3.2.2.1
  have hsl478_29 : hsT.s3.2.2.2.2.length = 32 := hsT_ok.s3.2.2.2
  refine s_storeSegs 0 30 (vss := [[.int .i64 hsT.m], [.int .i64 hsT.r], [.bool hsT.v0.1], [.int .u64 ((hsT.v0.2.1 : Nat) : Int)], bv hsT.v0.2.2.1, bv hsT.v0.2.2.2, [.bool hsT.v1.1], [.int .u64 ((hsT.v1.2.1 : Nat) : Int)], bv hsT.v1.2.2.1, bv hsT.v1.2.2.2, [.bool hsT.s0.1], [.int .i64 hsT.s0.2.1], bv hsT.s0.2.2.1, bv hsT.s0.2.2.2.1, bv hsT.s0.2.2.2.2, [.bool hsT.s1.1], [.int .i64 hsT.s1.2.1], bv hsT.s1.2.2.1, bv hsT.s1.2.2.2.1, bv hsT.s1.2.2.2.2, [.bool hsT.s2.1], [.int .i64 hsT.s2.2.1], bv hsT.s2.2.2.1, bv hsT.s2.2.2.2.1, bv hsT.s2.2.2.2.2, [.bool hsT.s3.1], [.int .i64 hsT.s3.2.1], bv hsT.s3.2.2.1, bv hsT.s3.2.2.2.1, bv hsT.s3.2.2.2.2]) hE rfl rfl hM rfl sz62 (by simp only [List.take_succ_cons, List.take_zero, List.drop_zero, List.drop_succ_cons]; simp only [List.map_cons, List.map_nil, bv_length, List.length_cons, List.length_nil, List.length_replicate, hsl478_4, hsl478_5, hsl478_8, hsl478_9, hsl478_12, hsl478_13, hsl478_14, hsl478_17, hsl478_18, hsl478_19, hsl478_22, hsl478_23, hsl478_24, hsl478_27, hsl478_28, hsl478_29]) (by decide) rfl (one_fl ⟨one1 rfl, one1 rfl, one1 rfl, one1 rfl, bv_one _, bv_one _, one1 rfl, one1 rfl, bv_one _, bv_one _, one1 rfl, one1 rfl, bv_one _, bv_one _, bv_one _, one1 rfl, one1 rfl, bv_one _, bv_one _, bv_one _, one1 rfl, one1 rfl, bv_one _, bv_one _, bv_one _, one1 rfl, one1 rfl, bv_one _, bv_one _, bv_one _, trivial⟩) rfl (by intro X h; cases h) ?_; intro w36 hM'; clear hM; have hM := hM'; clear hM'
  try simp only [List.take_zero, List.take_succ_cons, List.drop_zero, List.drop_succ_cons, List.take_nil, List.drop_nil, List.nil_append, List.append_nil, List.cons_append] at hM
  refine s_assign hE rfl rfl ?_; clear hE a; intro a hE
  refine s_assign hE rfl rfl ?_; clear hE a; intro a hE
  refine q_nil ?_
  replace hE : Env a 196 [(0, _), (1, _), (4, _), (5, _), (7, _), (9, _), (12, _), (15, _), (18, _), (19, _), (20, _), (21, _), (22, _), (24, _), (25, _), (27, _), (74, _)] := hE.sel [0, 1, 4, 5, 7, 9, 12, 15, 18, 19, 20, 21, 22, 24, 25, 27, 74] rfl
  refine hK14 _ _ ?_
  refine wp_seq_k (fun K15 hK15 => ?_)
  refine wp_plain [true, true, true, false, true, true, true, true, false, false, true, true] rfl rfl ?_
  refine s_loadN hE rfl (hM.get 0 rfl) row62 rfl (by intro X h; cases h) rfl ?_; clear hE a; intro a hE
  replace hE := hE.cast 139 rfl (show _ = Value.agg ([[.int .i64 hsT.m], [.int .i64 hsT.r], [.bool hsT.v0.1], [.int .u64 ((hsT.v0.2.1 : Nat) : Int)], bv hsT.v0.2.2.1, bv hsT.v0.2.2.2, [.bool hsT.v1.1], [.int .u64 ((hsT.v1.2.1 : Nat) : Int)], bv hsT.v1.2.2.1, bv hsT.v1.2.2.2, [.bool hsT.s0.1], [.int .i64 hsT.s0.2.1], bv hsT.s0.2.2.1, bv hsT.s0.2.2.2.1, bv hsT.s0.2.2.2.2, [.bool hsT.s1.1], [.int .i64 hsT.s1.2.1], bv hsT.s1.2.2.1, bv hsT.s1.2.2.2.1, bv hsT.s1.2.2.2.2, [.bool hsT.s2.1], [.int .i64 hsT.s2.2.1], bv hsT.s2.2.2.1, bv hsT.s2.2.2.2.1, bv hsT.s2.2.2.2.2, [.bool hsT.s3.1], [.int .i64 hsT.s3.2.1], bv hsT.s3.2.2.1, bv hsT.s3.2.2.2.1, bv hsT.s3.2.2.2.2] : List (List Value)).flatten.toArray from (by first | rfl | simp only [List.flatten_cons, List.flatten_nil, List.append_nil, List.append_assoc]))
  refine s_build (r := .agg (bv [7, 0, 0, 0, 0, 0, 0, 0, 0, 0, 0, 0, 0, 0, 0, 0, 0, 0, 0, 0, 0, 0, 0, 0, 0, 0, 0, 0, 0, 0, 0, 0]).toArray) _ hE rfl (fun w => by kernel_rfl) rfl ?_; clear hE a; intro a hE
  refine s_build (r := .agg (bv [5, 0, 0, 0, 0, 0, 0, 0, 0, 0, 0, 0, 0, 0, 0, 0]).toArray) _ hE rfl (fun w => by kernel_rfl) rfl ?_; clear hE a; intro a hE
  refine s_call hE rfl Tryd.call37 ((by have h := add_c hsT k7 [107, 108] sa5 1 _ (hM.get 11 rfl) (hM.get 12 rfl) hsT_ok (by decide) (by decide) (by unfold In64; decide); rw [ad9T] at h; exact h)) rfl ?_
  rintro e w37 ⟨rfl, hN⟩
  refine ⟨_, rfl, trivial, ?_⟩; clear hE a; intro a hE
  replace hM : Mem _ _ w37 [_, _, _, _, _, _, _, _, _, _, _, _, _] := hM.call0 hN trivial; clear hN
  refine s_move hE rfl rfl ?_; clear hE a; intro a hE
  refine s_extract hE rfl rfl rfl ?_; clear hE a; intro a hE
  refine s_extract hE rfl rfl rfl ?_; clear hE a; intro a hE
  refine s_extract hE rfl rfl rfl ?_; clear hE a; intro a hE
  refine s_alloc [1, 1, 1, 1, 32, 32, 1, 1, 32, 32, 1, 1, 16, 32, 32, 1, 1, 16, 32, 32, 1, 1, 16, 32, 32, 1, 1, 16, 32, 32] hE hM zeroL62 rfl rfl ?_; clear hE a; intro a b28 w38 hE hM'
  clear hM; have hM := hM'; clear hM'
  have hsl517_4 : (((addS hsT k7 [107, 108] sa5 1).1).v0.2.2.1).length = 32 := (addS_ok (h := hsT) (x := k7) (p := [107, 108]) (b := sa5) (z := 1) hsT_ok (by unfold In64; decide) (by decide) (by decide)).v0.2.1
  have hsl517_5 : (((addS hsT k7 [107, 108] sa5 1).1).v0.2.2.2).length = 32 := (addS_ok (h := hsT) (x := k7) (p := [107, 108]) (b := sa5) (z := 1) hsT_ok (by unfold In64; decide) (by decide) (by decide)).v0.2.2
  have hsl517_8 : (((addS hsT k7 [107, 108] sa5 1).1).v1.2.2.1).length = 32 := (addS_ok (h := hsT) (x := k7) (p := [107, 108]) (b := sa5) (z := 1) hsT_ok (by unfold In64; decide) (by decide) (by decide)).v1.2.1
  have hsl517_9 : (((addS hsT k7 [107, 108] sa5 1).1).v1.2.2.2).length = 32 := (addS_ok (h := hsT) (x := k7) (p := [107, 108]) (b := sa5) (z := 1) hsT_ok (by unfold In64; decide) (by decide) (by decide)).v1.2.2
  have hsl517_12 : (((addS hsT k7 [107, 108] sa5 1).1).s0.2.2.1).length = 16 := (addS_ok (h := hsT) (x := k7) (p := [107, 108]) (b := sa5) (z := 1) hsT_ok (by unfold In64; decide) (by decide) (by decide)).s0.2.1
  have hsl517_13 : (((addS hsT k7 [107, 108] sa5 1).1).s0.2.2.2.1).length = 32 := (addS_ok (h := hsT) (x := k7) (p := [107, 108]) (b := sa5) (z := 1) hsT_ok (by unfold In64; decide) (by decide) (by decide)).s0.2.2.1
  have hsl517_14 : (((addS hsT k7 [107, 108] sa5 1).1).s0.2.2.2.2).length = 32 := (addS_ok (h := hsT) (x := k7) (p := [107, 108]) (b := sa5) (z := 1) hsT_ok (by unfold In64; decide) (by decide) (by decide)).s0.2.2.2
  have hsl517_17 : (((addS hsT k7 [107, 108] sa5 1).1).s1.2.2.1).length = 16 := (addS_ok (h := hsT) (x := k7) (p := [107, 108]) (b := sa5) (z := 1) hsT_ok (by unfold In64; decide) (by decide) (by decide)).s1.2.1
  have hsl517_18 : (((addS hsT k7 [107, 108] sa5 1).1).s1.2.2.2.1).length = 32 := (addS_ok (h := hsT) (x := k7) (p := [107, 108]) (b := sa5) (z := 1) hsT_ok (by unfold In64; decide) (by decide) (by decide)).s1.2.2.1
  have hsl517_19 : (((addS hsT k7 [107, 108] sa5 1).1).s1.2.2.2.2).length = 32 := (addS_ok (h := hsT) (x := k7) (p := [107, 108]) (b := sa5) (z := 1) hsT_ok (by unfold In64; decide) (by decide) (by decide)).s1.2.2.2
  have hsl517_22 : (((addS hsT k7 [107, 108] sa5 1).1).s2.2.2.1).length = 16 := (addS_ok (h := hsT) (x := k7) (p := [107, 108]) (b := sa5) (z := 1) hsT_ok (by unfold In64; decide) (by decide) (by decide)).s2.2.1
  have hsl517_23 : (((addS hsT k7 [107, 108] sa5 1).1).s2.2.2.2.1).length = 32 := (addS_ok (h := hsT) (x := k7) (p := [107, 108]) (b := sa5) (z := 1) hsT_ok (by unfold In64; decide) (by decide) (by decide)).s2.2.2.1
  have hsl517_24 : (((addS hsT k7 [107, 108] sa5 1).1).s2.2.2.2.2).length = 32 := (addS_ok (h := hsT) (x := k7) (p := [107, 108]) (b := sa5) (z := 1) hsT_ok (by unfold In64; decide) (by decide) (by decide)).s2.2.2.2
  have hsl517_27 : (((addS hsT k7 [107, 108] sa5 1).1).s3.2.2.1).length = 16 := (addS_ok (h := hsT) (x := k7) (p := [107, 108]) (b := sa5) (z := 1) hsT_ok (by unfold In64; decide) (by decide) (by decide)).s3.2.1
  have hsl517_28 : (((addS hsT k7 [107, 108] sa5 1).1).s3.2.2.2.1).length = 32 := (addS_ok (h := hsT) (x := k7) (p := [107, 108]) (b := sa5) (z := 1) hsT_ok (by unfold In64; decide) (by decide) (by decide)).s3.2.2.1
  have hsl517_29 : (((addS hsT k7 [107, 108] sa5 1).1).s3.2.2.2.2).length = 32 := (addS_ok (h := hsT) (x := k7) (p := [107, 108]) (b := sa5) (z := 1) hsT_ok (by unfold In64; decide) (by decide) (by decide)).s3.2.2.2
  refine s_storeSegs 0 30 (vss := [[.int .i64 (((addS hsT k7 [107, 108] sa5 1).1).m)], [.int .i64 (((addS hsT k7 [107, 108] sa5 1).1).r)], [.bool (((addS hsT k7 [107, 108] sa5 1).1).v0.1)], [.int .u64 ((((addS hsT k7 [107, 108] sa5 1).1).v0.2.1 : Nat) : Int)], bv (((addS hsT k7 [107, 108] sa5 1).1).v0.2.2.1), bv (((addS hsT k7 [107, 108] sa5 1).1).v0.2.2.2), [.bool (((addS hsT k7 [107, 108] sa5 1).1).v1.1)], [.int .u64 ((((addS hsT k7 [107, 108] sa5 1).1).v1.2.1 : Nat) : Int)], bv (((addS hsT k7 [107, 108] sa5 1).1).v1.2.2.1), bv (((addS hsT k7 [107, 108] sa5 1).1).v1.2.2.2), [.bool (((addS hsT k7 [107, 108] sa5 1).1).s0.1)], [.int .i64 (((addS hsT k7 [107, 108] sa5 1).1).s0.2.1)], bv (((addS hsT k7 [107, 108] sa5 1).1).s0.2.2.1), bv (((addS hsT k7 [107, 108] sa5 1).1).s0.2.2.2.1), bv (((addS hsT k7 [107, 108] sa5 1).1).s0.2.2.2.2), [.bool (((addS hsT k7 [107, 108] sa5 1).1).s1.1)], [.int .i64 (((addS hsT k7 [107, 108] sa5 1).1).s1.2.1)], bv (((addS hsT k7 [107, 108] sa5 1).1).s1.2.2.1), bv (((addS hsT k7 [107, 108] sa5 1).1).s1.2.2.2.1), bv (((addS hsT k7 [107, 108] sa5 1).1).s1.2.2.2.2), [.bool (((addS hsT k7 [107, 108] sa5 1).1).s2.1)], [.int .i64 (((addS hsT k7 [107, 108] sa5 1).1).s2.2.1)], bv (((addS hsT k7 [107, 108] sa5 1).1).s2.2.2.1), bv (((addS hsT k7 [107, 108] sa5 1).1).s2.2.2.2.1), bv (((addS hsT k7 [107, 108] sa5 1).1).s2.2.2.2.2), [.bool (((addS hsT k7 [107, 108] sa5 1).1).s3.1)], [.int .i64 (((addS hsT k7 [107, 108] sa5 1).1).s3.2.1)], bv (((addS hsT k7 [107, 108] sa5 1).1).s3.2.2.1), bv (((addS hsT k7 [107, 108] sa5 1).1).s3.2.2.2.1), bv (((addS hsT k7 [107, 108] sa5 1).1).s3.2.2.2.2)]) hE rfl rfl hM rfl sz62 (by simp only [List.take_succ_cons, List.take_zero, List.drop_zero, List.drop_succ_cons]; simp only [List.map_cons, List.map_nil, bv_length, List.length_cons, List.length_nil, List.length_replicate, hsl517_4, hsl517_5, hsl517_8, hsl517_9, hsl517_12, hsl517_13, hsl517_14, hsl517_17, hsl517_18, hsl517_19, hsl517_22, hsl517_23, hsl517_24, hsl517_27, hsl517_28, hsl517_29]) (by decide) rfl (one_fl ⟨one1 rfl, one1 rfl, one1 rfl, one1 rfl, bv_one _, bv_one _, one1 rfl, one1 rfl, bv_one _, bv_one _, one1 rfl, one1 rfl, bv_one _, bv_one _, bv_one _, one1 rfl, one1 rfl, bv_one _, bv_one _, bv_one _, one1 rfl, one1 rfl, bv_one _, bv_one _, bv_one _, one1 rfl, one1 rfl, bv_one _, bv_one _, bv_one _, trivial⟩) rfl (by intro X h; cases h) ?_; intro w39 hM'; clear hM; have hM := hM'; clear hM'
  try simp only [List.take_zero, List.take_succ_cons, List.drop_zero, List.drop_succ_cons, List.take_nil, List.drop_nil, List.nil_append, List.append_nil, List.cons_append] at hM
  refine s_assign hE rfl rfl ?_; clear hE a; intro a hE
  refine s_assign hE rfl rfl ?_; clear hE a; intro a hE
  refine q_nil ?_
  replace hE : Env a 196 [(0, _), (1, _), (4, _), (5, _), (7, _), (9, _), (12, _), (15, _), (18, _), (19, _), (20, _), (21, _), (22, _), (24, _), (25, _), (27, _), (30, _), (74, _)] := hE.sel [0, 1, 4, 5, 7, 9, 12, 15, 18, 19, 20, 21, 22, 24, 25, 27, 30, 74] rfl
  refine hK15 _ _ ?_
  refine wp_seq_k (fun K16 hK16 => ?_)
  refine wp_plain [true, true, true, true, false, true, true, true, false, true, true, true, true, true, true, true, true, true, true, true, true, true, true, true, true, true, true, true, true, true, true, true, true, true, true, true, true, true, true, true, true, true, true, true, true, true, true, true, true, true, true] rfl rfl ?_
  refine s_move hE rfl rfl ?_; clear hE a; intro a hE
  refine s_bin hE rfl rfl bin_eql rfl ?_; clear hE a; intro a hE
  replace hE := hE.cast 147 rfl (show _ = Value.bool true from (congrArg Value.bool (by decide)))
  refine s_move hE rfl rfl ?_; clear hE a; intro a hE
  refine g_yes hE rfl rfl ?_
  refine s_loadN hE rfl (hM.get 9 rfl) row62 rfl (by intro X h; cases h) rfl ?_; clear hE a; intro a hE
  replace hE := hE.cast 149 rfl (show _ = Value.agg ([[.int .i64 gT.m], [.int .i64 gT.r], [.bool gT.v0.1], [.int .u64 ((gT.v0.2.1 : Nat) : Int)], bv gT.v0.2.2.1, bv gT.v0.2.2.2, [.bool gT.v1.1], [.int .u64 ((gT.v1.2.1 : Nat) : Int)], bv gT.v1.2.2.1, bv gT.v1.2.2.2, [.bool gT.s0.1], [.int .i64 gT.s0.2.1], bv gT.s0.2.2.1, bv gT.s0.2.2.2.1, bv gT.s0.2.2.2.2, [.bool gT.s1.1], [.int .i64 gT.s1.2.1], bv gT.s1.2.2.1, bv gT.s1.2.2.2.1, bv gT.s1.2.2.2.2, [.bool gT.s2.1], [.int .i64 gT.s2.2.1], bv gT.s2.2.2.1, bv gT.s2.2.2.2.1, bv gT.s2.2.2.2.2, [.bool gT.s3.1], [.int .i64 gT.s3.2.1], bv gT.s3.2.2.1, bv gT.s3.2.2.2.1, bv gT.s3.2.2.2.2] : List (List Value)).flatten.toArray from (by first | rfl | simp only [List.flatten_cons, List.flatten_nil, List.append_nil, List.append_assoc]))
  refine g_yes hE rfl rfl ?_
  refine s_call hE rfl Tryd.call36 ((by have h := no25_c gT [97, 98] 12 _ (hM.get 12 rfl) (hM.get 13 rfl) gT_ok; rw [no4T] at h; exact h)) rfl ?_
  rintro e w40 ⟨rfl, hN⟩
  refine ⟨_, rfl, trivial, ?_⟩; clear hE a; intro a hE
  replace hM : Mem _ _ w40 [_, _, _, _, _, _, _, _, _, _, _, _, _, _] := hM.call0 hN trivial; clear hN
  refine s_pickt hE rfl rfl rfl ?_; clear hE a; intro a hE
  refine s_move hE rfl rfl ?_; clear hE a; intro a hE
  refine g_yes hE rfl rfl ?_
  refine s_loadN hE rfl (hM.get 9 rfl) row62 rfl (by intro X h; cases h) rfl ?_; clear hE a; intro a hE
  replace hE := hE.cast 153 rfl (show _ = Value.agg ([[.int .i64 gT.m], [.int .i64 gT.r], [.bool gT.v0.1], [.int .u64 ((gT.v0.2.1 : Nat) : Int)], bv gT.v0.2.2.1, bv gT.v0.2.2.2, [.bool gT.v1.1], [.int .u64 ((gT.v1.2.1 : Nat) : Int)], bv gT.v1.2.2.1, bv gT.v1.2.2.2, [.bool gT.s0.1], [.int .i64 gT.s0.2.1], bv gT.s0.2.2.1, bv gT.s0.2.2.2.1, bv gT.s0.2.2.2.2, [.bool gT.s1.1], [.int .i64 gT.s1.2.1], bv gT.s1.2.2.1, bv gT.s1.2.2.2.1, bv gT.s1.2.2.2.2, [.bool gT.s2.1], [.int .i64 gT.s2.2.1], bv gT.s2.2.2.1, bv gT.s2.2.2.2.1, bv gT.s2.2.2.2.2, [.bool gT.s3.1], [.int .i64 gT.s3.2.1], bv gT.s3.2.2.1, bv gT.s3.2.2.2.1, bv gT.s3.2.2.2.2] : List (List Value)).flatten.toArray from (by first | rfl | simp only [List.flatten_cons, List.flatten_nil, List.append_nil, List.append_assoc]))
  refine g_yes hE rfl rfl ?_
  refine s_call hE rfl Tryd.call39 ((by have h := opens25_c gT [99, 100] 1 _ (hM.get 12 rfl) (hM.get 13 rfl) gT_ok; rw [opens3T] at h; exact h)) rfl ?_
  rintro e w41 ⟨rfl, hN⟩
  refine ⟨_, rfl, trivial, ?_⟩; clear hE a; intro a hE
  replace hM : Mem _ _ w41 [_, _, _, _, _, _, _, _, _, _, _, _, _, _] := hM.call0 hN trivial; clear hN
  refine s_pickt hE rfl rfl rfl ?_; clear hE a; intro a hE
  refine s_move hE rfl rfl ?_; clear hE a; intro a hE
  refine g_yes hE rfl rfl ?_
  refine s_move hE rfl rfl ?_; clear hE a; intro a hE
  refine g_yes hE rfl rfl ?_
  refine s_bin hE rfl rfl bin_eql rfl ?_; clear hE a; intro a hE
  replace hE := hE.cast 158 rfl (show _ = Value.bool true from (congrArg Value.bool (by decide)))
  refine s_pickt hE rfl rfl rfl ?_; clear hE a; intro a hE
  refine s_move hE rfl rfl ?_; clear hE a; intro a hE
  refine g_yes hE rfl rfl ?_
  refine s_move hE rfl rfl ?_; clear hE a; intro a hE
  refine g_yes hE rfl rfl ?_
  refine s_bin hE rfl rfl bin_eql rfl ?_; clear hE a; intro a hE
  replace hE := hE.cast 162 rfl (show _ = Value.bool true from (congrArg Value.bool (by decide)))
  refine s_pickt hE rfl rfl rfl ?_; clear hE a; intro a hE
  refine s_move hE rfl rfl ?_; clear hE a; intro a hE
  refine g_yes hE rfl rfl ?_
  refine s_move hE rfl rfl ?_; clear hE a; intro a hE
  refine g_yes hE rfl rfl ?_
  refine s_bin hE rfl rfl bin_eql rfl ?_; clear hE a; intro a hE
  replace hE := hE.cast 166 rfl (show _ = Value.bool true from (congrArg Value.bool (by decide)))
  refine s_pickt hE rfl rfl rfl ?_; clear hE a; intro a hE
  refine s_move hE rfl rfl ?_; clear hE a; intro a hE
  refine g_yes hE rfl rfl ?_
  refine s_move hE rfl rfl ?_; clear hE a; intro a hE
  refine g_yes hE rfl rfl ?_
  refine s_bin hE rfl rfl bin_eql rfl ?_; clear hE a; intro a hE
  replace hE := hE.cast 170 rfl (show _ = Value.bool true from (congrArg Value.bool (by decide)))
  refine s_pickt hE rfl rfl rfl ?_; clear hE a; intro a hE
  refine s_move hE rfl rfl ?_; clear hE a; intro a hE
  refine g_yes hE rfl rfl ?_
  refine s_move hE rfl rfl ?_; clear hE a; intro a hE
  refine g_yes hE rfl rfl ?_
  refine s_bin hE rfl rfl bin_eql rfl ?_; clear hE a; intro a hE
  replace hE := hE.cast 174 rfl (show _ = Value.bool true from (congrArg Value.bool (by decide)))
  refine s_pickt hE rfl rfl rfl ?_; clear hE a; intro a hE
  refine s_move hE rfl rfl ?_; clear hE a; intro a hE
  refine g_yes hE rfl rfl ?_
  refine s_move hE rfl rfl ?_; clear hE a; intro a hE
  refine g_yes hE rfl rfl ?_
  refine s_bin hE rfl rfl bin_eql rfl ?_; clear hE a; intro a hE
  replace hE := hE.cast 178 rfl (show _ = Value.bool true from (congrArg Value.bool (by decide)))
  refine s_pickt hE rfl rfl rfl ?_; clear hE a; intro a hE
  refine s_move hE rfl rfl ?_; clear hE a; intro a hE
  refine g_yes hE rfl rfl ?_
  refine s_move hE rfl rfl ?_; clear hE a; intro a hE
  refine g_yes hE rfl rfl ?_
  refine s_bin hE rfl rfl bin_eql rfl ?_; clear hE a; intro a hE
  replace hE := hE.cast 182 rfl (show _ = Value.bool true from (congrArg Value.bool (by decide)))
  refine s_pickt hE rfl rfl rfl ?_; clear hE a; intro a hE
  refine s_move hE rfl rfl ?_; clear hE a; intro a hE
  refine g_yes hE rfl rfl ?_
  refine s_move hE rfl rfl ?_; clear hE a; intro a hE
  refine g_yes hE rfl rfl ?_
  refine s_bin hE rfl rfl bin_eql rfl ?_; clear hE a; intro a hE
  replace hE := hE.cast 186 rfl (show _ = Value.bool true from (congrArg Value.bool (by decide)))
  refine s_pickt hE rfl rfl rfl ?_; clear hE a; intro a hE
  refine s_move hE rfl rfl ?_; clear hE a; intro a hE
  refine g_yes hE rfl rfl ?_
  refine s_move hE rfl rfl ?_; clear hE a; intro a hE
  refine g_yes hE rfl rfl ?_
  refine s_bin hE rfl rfl bin_eql rfl ?_; clear hE a; intro a hE
  replace hE := hE.cast 190 rfl (show _ = Value.bool true from (congrArg Value.bool (by decide)))
  refine s_pickt hE rfl rfl rfl ?_; clear hE a; intro a hE
  refine s_move hE rfl rfl ?_; clear hE a; intro a hE
  refine g_yes hE rfl rfl ?_
  refine s_move hE rfl rfl ?_; clear hE a; intro a hE
  refine g_yes hE rfl rfl ?_
  refine s_bin hE rfl rfl bin_eql rfl ?_; clear hE a; intro a hE
  replace hE := hE.cast 194 rfl (show _ = Value.bool true from (congrArg Value.bool (by decide)))
  refine s_pickt hE rfl rfl rfl ?_; clear hE a; intro a hE
  refine s_assign hE rfl rfl ?_; clear hE a; intro a hE
  refine q_nil ?_
  replace hE : Env a 196 [(0, _), (1, _), (4, _), (19, _), (22, _), (25, _), (74, _)] := hE.sel [0, 1, 4, 19, 22, 25, 74] rfl
  refine hK16 _ _ ?_
  refine wp_ret ?_
  refine f_ret1 hE rfl rfl ?_
  exact ⟨(by first | rfl | (simp; done)), hM.pick [] rfl⟩
set_option maxRecDepth 100000 in
theorem slotsKnown_lifted (os : Os) (started : os.Started) (H : Type) (enc : TypeId × Value → H) :
    ReturnsInHanded {} Tryd.checked os 10 .any (fun w args => (Rows.slotsKnownSpec.pre enc Tryd.prog Tryd.f10 [] false w args ∧ laidMetH Tryd.prog Rows.slotsKnownRow.laid w) ∧ sizedMet enc Tryd.prog Tryd.f10 (OpenSpec.ofChange Rows.slotsKnownSpec) false w args) (Rows.slotsKnownSpec.post enc Tryd.prog Tryd.f10 false true false false) := by
  refine law_liftedL (C := Tryd.checked) (fn := Tryd.f10) (l := Rows.slotsKnownRow.laid) (by kernel_rfl) started (by kernel_rfl) Tryd.func10 rfl (fun ds hl => ?_) rfl Tryd.underlying4 (by kernel_rfl) (of_decide_eq_true (by kernel_rfl)) (by kernel_rfl)
    (ChangeSpec.witness_shaped (enc := enc) (C := Tryd.checked) (os := os) (X := fun w _ => laidMetH Tryd.prog Rows.slotsKnownRow.laid w) false (World.laidAll Tryd.prog os Rows.slotsKnownRow.laid) #[] 8 (World.laidAll_os _ _ _) (World.shaped_of_ZipB (by kernel_rfl) (by kernel_rfl)) (by kernel_rfl) (by kernel_rfl) (by kernel_rfl) (by rw [MakeChecks.laidMetH_plain _ _ _ (by kernel_rfl)]; exact laidMet_laidAll _ (by kernel_rfl) (by kernel_rfl))) ?_
  · rw [Tryd.params10] at hl
    match ds, hl with
    | [], _ => rfl
  · intro W base args ds ps hval hA hw hL
    have hG := glb_of_laid (P := Tryd.prog) (g := 1) (t := 170) (e := 129) (by kernel_rfl) (by kernel_rfl) Tryd.underlying170 Tryd.underlying129 (by kernel_rfl) (by kernel_rfl) (by kernel_rfl) (show laidMet Tryd.prog (_ :: _) W from (laidMet_tail (laidMet_tail (laidMet_tail hL))))
    have hT : tabP.holds W := tabE_of_laid (P := Tryd.prog) (g := 0) (t := 163) (e := 24) (n := 20) (by kernel_rfl) (by kernel_rfl) Tryd.underlying163 Tryd.underlying24 (by kernel_rfl) (by kernel_rfl) (by kernel_rfl) (show laidMet Tryd.prog (_ :: _) W from (laidMet_tail (laidMet_tail hL)))
    rw [Tryd.params10] at hA hval hw
    obtain ⟨hargs, rfl, rfl⟩ := trodAll_nil hA
    obtain rfl : args = #[] := by cases args; simp_all
    exact slotsKnown_c W hG hT

/-- The row's statement. -/
theorem slotsKnown_row : Rows.SlotsKnownSaid :=
  OpenClaim.holds_of_wide 10 Tryd.f10 rfl rfl rfl rfl rfl rfl rfl ⟨rfl, rfl, rfl, rfl, rfl⟩ rfl rfl rfl rfl rfl (by kernel_rfl) Tryd.func10 (by kernel_rfl)
    (of_decide_eq_true (by kernel_rfl)) (by unfold Func.isWrapper; first | (rw [if_pos (by decide +kernel)]; kernel_rfl) | (rw [if_neg (by decide +kernel)]; exact ⟨rfl, rfl⟩))
    (fun os started H enc _ => slotsKnown_lifted os started H enc)

/-- The statement: the row, its listed variable tied to the program's text. -/
theorem slotsKnown_holds : Rows.SlotsKnownCardSaid :=
  Claim7.holds_tied_plain_at .later [] [.data, .data, .data, .data] true (true, "260fdf816069b3bf8e1fff31512b0488977d0f5c26e19155cc996da54a266071") false
    slotsKnown_row (fun _ h => by cases h) (by kernel_rfl) (fun _ h => by cases h) slotsKnown_row_tie rfl ⟨rfl, rfl⟩ (by kernel_rfl) rfl
    (fun f fn hf hfn => by
      obtain rfl : f = 10 := Option.some.inj ((show Tryd.prog.funcNamed "casemate/casematelaw25.SlotsKnown" = some 10 by kernel_rfl).symm.trans hf) |>.symm
      obtain rfl : fn = Tryd.f10 := (Option.some.inj (Tryd.func10.symm.trans hfn)).symm
      exact ⟨by kernel_rfl, fun j t ht => by
        rw [Tryd.params10] at ht
        simp at ht⟩)
    (by kernel_rfl)
#print axioms slotsKnown_holds
end Go.Proofs.YtniekapfoaiieaaDoor
