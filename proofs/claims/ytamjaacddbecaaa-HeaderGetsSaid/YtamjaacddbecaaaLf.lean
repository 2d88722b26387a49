/- Walks of functions of the given program that the claim reaches. -/
import Derived.Test.YtamjaacddbecaaaLe
set_option linter.unusedSimpArgs false
set_option linter.unusedVariables false
namespace Go.Proofs.Ytamjaacddbecaaa
open Go Go.Kx
theorem fpl29 : fldPl Try.prog 29 = some (plc 0 [32, 32]) := by kernel_rfl
theorem tapNum_l (tb : Nat) (bb : List Nat) (bs : List UInt8) (torn : Bool) (k N : Nat) (w : World) (hT : (tap tb bb bs torn 88).holds w) (hN : 256 ^ k ≤ N) : Calls Try.prog 42 #[.pointer (some ⟨tb, 0, none⟩), .int .i64 k] w fun e w' => ∃ m bs' torn', m < N ∧ bs'.length ≤ bs.length ∧ e = .returned (.int .u64 ((m : Nat) : Int)) ∧ Mem w [tb] w' [tap tb bb bs' torn' 88] := (tapNum_c tb bb bs torn k w hT).mono fun e w' h => ⟨_, _, _, Nat.lt_of_lt_of_le tNum_lt hN, tNum_short, h.1, h.2⟩
theorem tapBytes_l (tb : Nat) (bb : List Nat) (bs : List UInt8) (torn : Bool) (k : Nat) (w : World) (hT : (tap tb bb bs torn 88).holds w) : Calls Try.prog 41 #[.pointer (some ⟨tb, 0, none⟩), .int .i64 k] w fun e w' => ∃ v' c b1 bs' torn', (∀ y, y ∈ rdB v' c → y ∈ bb) ∧ b1.length ≤ bs.length ∧ bs'.length ≤ bs.length ∧ e = .returned v' ∧ Mem w [tb] w' [rd v' 1 b1.length c (bv b1), tap tb bb bs' torn' 88] := (tapBytes_c tb bb bs torn k w hT).mono fun e w' ⟨v', c, h1, h2, h3⟩ => ⟨v', c, _, _, _, h2, tBytes_short.1, tBytes_short.2, h1, h3⟩
theorem boxget_no (v : Value) (bs : List UInt8) (c : Nat) (w : World) (hr_bs : (rd v 1 bs.length c (bv bs)).holds w) (hl : bs.length < 64) : Calls Try.prog 51 #[v] w fun e w' => e = .returned (.tuple #[.agg ([bv (List.replicate 32 (0 : UInt8)), bv (List.replicate 32 (0 : UInt8))] : List (List Value)).flatten.toArray, .slice none 0 0, .int .i64 4]) ∧ Mem w [] w' [] := by
  have hM : Mem w [] w [rd v 1 bs.length c (bv bs)] := Mem.startR w (fun g hg => by
    simp only [List.mem_cons, List.not_mem_nil, or_false] at hg
    rcases hg with rfl
    · exact ⟨hr_bs, rfl⟩)
  refine f_enter 23 Try.func51 rfl rfl rfl ?_
  intro a hE
  replace hE : Env a 23 [(0, _)] := hE
  refine wp_seq_k (fun K1 hK1 => ?_)
  refine wp_plain [false, true, true] rfl rfl ?_
  refine s_alloc [32, 32] hE hM zero29 rfl rfl ?_; clear hE a; intro a b2 w1 hE hM'
  clear hM; have hM := hM'; clear hM'
  refine s_assign hE rfl rfl ?_; clear hE a; intro a hE
  refine s_assign hE rfl rfl ?_; clear hE a; intro a hE
  refine q_nil ?_
  refine hK1 _ _ ?_
  refine wp_seq_k (fun K2 hK2 => ?_)
  refine wp_seq_k (fun K3 hK3 => ?_)
  refine wp_plain [true, true, true] rfl rfl ?_
  refine s_move hE rfl rfl ?_; clear hE a; intro a hE
  refine s_len hE rfl Try.underlying55 (rd_slice (hM.get 1 rfl)) rfl ?_; clear hE a; intro a hE
  refine s_bin hE rfl rfl bin_lss rfl ?_; clear hE a; intro a hE
  refine q_nil ?_
  replace hE : Env a 23 [(0, _), (2, _), (3, _), (4, _), (8, _)] := hE.sel [0, 2, 3, 4, 8] rfl
  refine hK3 _ _ ?_
  replace hE := hE.cast 8 rfl (show _ = Value.bool true from (congrArg Value.bool (decide_eq_true (by omega))))
  refine wp_cond_true (hE.eval rfl) ?_
  refine wp_seq_k (fun K4 hK4 => ?_)
  refine wp_plain [true, false, true, true] rfl rfl ?_
  refine s_buildS [] hE rfl zero29 rfl fpl29 (by simp [PartsOk, Value.cells, *]) rfl ?_; clear hE a; intro a hE
  replace hE := hE.cast 9 rfl (show _ = Value.agg ([bv (List.replicate 32 (0 : UInt8)), bv (List.replicate 32 (0 : UInt8))] : List (List Value)).flatten.toArray from (by first | rfl | simp [setAll]))
  refine s_storeSegs 0 2 (vss := [bv (List.replicate 32 (0 : UInt8)), bv (List.replicate 32 (0 : UInt8))]) hE rfl rfl hM rfl sz29 (by have hl_s0 : (List.replicate 32 (0 : UInt8)).length = 32 := (by first | (simp; done) | (simp [*]; done) | (simp; omega)); have hl_s1 : (List.replicate 32 (0 : UInt8)).length = 32 := (by first | (simp; done) | (simp [*]; done) | (simp; omega));  simp only [List.map_cons, List.map_nil, bv_length, List.length_cons, List.length_nil, List.take_succ_cons, List.take_zero, List.drop_zero, List.drop_succ_cons, hl_s0, hl_s1]) (by decide) rfl (one_fl ⟨bv_one _, bv_one _, trivial⟩) rfl (by intro X h; cases h) ?_; intro w2 hM'; clear hM; have hM := hM'; clear hM'
  simp only [List.take_zero, List.take_succ_cons, List.drop_zero, List.drop_succ_cons, List.take_nil, List.drop_nil, List.nil_append, List.append_nil, List.cons_append] at hM
  refine s_assign hE rfl rfl ?_; clear hE a; intro a hE
  refine s_assign hE rfl rfl ?_; clear hE a; intro a hE
  refine q_nil ?_
  replace hE : Env a 23 [(0, _), (2, _), (3, _), (4, _), (8, _)] := hE.sel [0, 2, 3, 4, 8] rfl
  refine hK4 _ _ ?_
  refine wp_ret ?_
  refine q_then_r ?_
  refine f_ret3 hE rfl (res_cellN rfl (hM.get 0 rfl) row29 rfl) rfl rfl ?_
  exact ⟨(by first | rfl | (simp; done)), hM.pick [] rfl⟩
theorem boxget_l (v : Value) (bs : List UInt8) (c : Nat) (w : World) (hr : (rd v 1 bs.length c (bv bs)).holds w) (hb : bs.length ≤ 140737488355328) : Calls Try.prog 51 #[v] w fun e w' => ∃ d t v' e', d.length = 32 ∧ t.length = 32 ∧ e = .returned (.tuple #[.agg ([bv d, bv t] : List (List Value)).flatten.toArray, v', .int .i64 e']) ∧ Mem w [] w' [] := by
  by_cases hl : 64 ≤ bs.length
  · refine (boxget_c v bs c w hr hl hb).mono ?_
    rintro e w' ⟨v', rfl, hM⟩
    exact ⟨bs.take 32, (bs.drop 32).take 32, v', 0, by simp; omega, by simp; omega, rfl, hM.pick [] rfl⟩
  · refine (boxget_no v bs c w hr (by omega)).mono ?_
    rintro e w' ⟨rfl, hM⟩
    exact ⟨List.replicate 32 0, List.replicate 32 0, _, 4, by simp, by simp, rfl, hM⟩
theorem hwrapped_l (tb : Nat) (bb : List Nat) (bs : List UInt8) (torn : Bool) (w : World) (hT : (tap tb bb bs torn 88).holds w) (hb : bs.length ≤ 140737488355328) : Calls Try.prog 43 #[.pointer (some ⟨tb, 0, none⟩)] w fun e w' => ∃ d t bs' torn', d.length = 32 ∧ t.length = 32 ∧ bs'.length ≤ bs.length ∧ e = .returned (.agg ([bv d, bv t] : List (List Value)).flatten.toArray) ∧ Mem w [tb] w' [tap tb bb bs' torn' 88] := by
  have hM := Mem.startT hT
  refine f_enter 14 Try.func43 rfl rfl rfl ?_
  intro a hE
  replace hE : Env a 14 [(0, _)] := hE
  refine wp_seq_k (fun K1 hK1 => ?_)
  refine wp_plain [false] rfl rfl ?_
  refine s_alloc [32, 32] hE hM zeroL29 rfl rfl ?_; clear hE a; intro a b2 w1 hE hM'
  clear hM; have hM := hM'; clear hM'
  refine q_nil ?_
  refine hK1 _ _ ?_
  refine wp_seq_k (fun K2 hK2 => ?_)
  refine wp_plain [true, false, false, true, true, true, true, false, false, true, true] rfl rfl ?_
  refine s_move hE rfl rfl ?_; clear hE a; intro a hE
  replace hM : Mem _ _ w1 [_, _] := hM.pick [1, 0] rfl
  refine s_call hE rfl Try.call41 (tapBytes_l tb bb bs torn 64 _ (hM.get 0 rfl)) rfl ?_
  rintro e w2 ⟨v8_1, c8_1, bx8_1, bl8_1, tn8_1, hvt8_1, hbx8_1, hbl8_1, rfl, hN⟩
  refine ⟨_, rfl, trivial, ?_⟩; clear hE a; intro a hE
  replace hM : Mem _ _ w2 [_, _, _] := hM.call1 hN (fun f hf x hx => (List.mem_cons.1 hf).elim (fun h => by subst h; exact .inl (hvt8_1 x (by first | exact hx | (rw [hbx8_1] at hx; exact hx)))) (fun h => by rw [List.mem_singleton.1 h] at hx; exact .inl hx)); clear hN
  refine s_call hE rfl Try.call51 (boxget_l _ bx8_1 _ _ (hM.get 0 rfl) (by omega)) rfl ?_
  rintro e w3 ⟨d9_2, t9_2, v9_2, e9_2, hd9_2, ht9_2, rfl, hN⟩
  refine ⟨_, rfl, trivial, ?_⟩; clear hE a; intro a hE
  replace hM : Mem _ _ w3 [_, _, _] := hM.call0 hN trivial; clear hN
  refine s_move hE rfl rfl ?_; clear hE a; intro a hE
  refine s_extract hE rfl rfl rfl ?_; clear hE a; intro a hE
  refine s_extract hE rfl rfl rfl ?_; clear hE a; intro a hE
  refine s_extract hE rfl rfl rfl ?_; clear hE a; intro a hE
  refine s_alloc [32, 32] hE hM zeroL29 rfl rfl ?_; clear hE a; intro a b3 w4 hE hM'
  clear hM; have hM := hM'; clear hM'
  have hsl28_0 : d9_2.length = 32 := hd9_2
  have hsl28_1 : t9_2.length = 32 := ht9_2
  refine s_storeSegs 0 2 (vss := [bv d9_2, bv t9_2]) hE rfl rfl hM rfl sz29 (by simp only [List.take_succ_cons, List.take_zero, List.drop_zero, List.drop_succ_cons]; simp only [List.map_cons, List.map_nil, bv_length, List.length_cons, List.length_nil, List.length_replicate, hsl28_0, hsl28_1]) (by decide) rfl (one_fl ⟨bv_one _, bv_one _, trivial⟩) rfl (by intro X h; cases h) ?_; intro w5 hM'; clear hM; have hM := hM'; clear hM'
  try simp only [List.take_zero, List.take_succ_cons, List.drop_zero, List.drop_succ_cons, List.take_nil, List.drop_nil, List.nil_append, List.append_nil, List.cons_append] at hM
  refine s_assign hE rfl rfl ?_; clear hE a; intro a hE
  refine s_assign hE rfl rfl ?_; clear hE a; intro a hE
  refine q_nil ?_
  replace hE : Env a 14 [(2, _), (3, _)] := hE.sel [2, 3] rfl
  refine hK2 _ _ ?_
  refine wp_seq_k (fun K3 hK3 => ?_)
  refine wp_plain [true, false] rfl rfl ?_
  refine s_loadN hE rfl (hM.get 0 rfl) row29 rfl (by intro X h; cases h) rfl ?_; clear hE a; intro a hE
  replace hE := hE.cast 13 rfl (show _ = Value.agg ([bv d9_2, bv t9_2] : List (List Value)).flatten.toArray from (by first | rfl | simp only [List.flatten_cons, List.flatten_nil, List.append_nil, List.append_assoc]))
  have hsl41_0 : d9_2.length = 32 := hd9_2
  have hsl41_1 : t9_2.length = 32 := ht9_2
  replace hM : Mem _ _ w5 [_, _, _, _] := hM.pick [3, 0, 1, 2] rfl
  refine s_storeSegs 0 2 (vss := [bv d9_2, bv t9_2]) hE rfl rfl hM rfl sz29 (by simp only [List.take_succ_cons, List.take_zero, List.drop_zero, List.drop_succ_cons]; simp only [List.map_cons, List.map_nil, bv_length, List.length_cons, List.length_nil, List.length_replicate, hsl41_0, hsl41_1]) (by decide) rfl (one_fl ⟨bv_one _, bv_one _, trivial⟩) rfl (by intro X h; cases h) ?_; intro w6 hM'; clear hM; have hM := hM'; clear hM'
  try simp only [List.take_zero, List.take_succ_cons, List.drop_zero, List.drop_succ_cons, List.take_nil, List.drop_nil, List.nil_append, List.append_nil, List.cons_append] at hM
  refine q_nil ?_
  replace hE : Env a 14 [(2, _), (3, _)] := hE.sel [2, 3] rfl
  refine hK3 _ _ ?_
  refine wp_ret ?_
  refine f_ret1 hE rfl (res_cellN rfl (hM.get 0 rfl) row29 rfl) ?_
  replace hM : Mem _ _ w6 [_, _, _, _] := hM.pick [3, 0, 1, 2] rfl
  exact ⟨_, _, _, _, hd9_2, ht9_2, by omega, by first | rfl | (simp; done), hM.pick [0] rfl⟩
set_option maxRecDepth 20000 in
set_option maxHeartbeats 4000000 in
theorem hread_l (tb : Nat) (bb : List Nat) (bs : List UInt8) (torn : Bool) (w : World) (hT : (tap tb bb bs torn 88).holds w) (hb : bs.length ≤ 140737488355328) : Calls Try.prog 27 #[.pointer (some ⟨tb, 0, none⟩)] w fun e w' => ∃ (h : Hd) (bs' : List UInt8) (torn' : Bool), OkHd h ∧ bs'.length ≤ bs.length ∧ e = .returned (.agg ([[.int .i64 h.m], [.int .i64 h.r], [.bool h.v0.1], [.int .u64 ((h.v0.2.1 : Nat) : Int)], bv h.v0.2.2.1, bv h.v0.2.2.2, [.bool h.v1.1], [.int .u64 ((h.v1.2.1 : Nat) : Int)], bv h.v1.2.2.1, bv h.v1.2.2.2, [.bool h.s0.1], [.int .i64 h.s0.2.1], bv h.s0.2.2.1, bv h.s0.2.2.2.1, bv h.s0.2.2.2.2, [.bool h.s1.1], [.int .i64 h.s1.2.1], bv h.s1.2.2.1, bv h.s1.2.2.2.1, bv h.s1.2.2.2.2, [.bool h.s2.1], [.int .i64 h.s2.2.1], bv h.s2.2.2.1, bv h.s2.2.2.2.1, bv h.s2.2.2.2.2, [.bool h.s3.1], [.int .i64 h.s3.2.1], bv h.s3.2.2.1, bv h.s3.2.2.2.1, bv h.s3.2.2.2.2] : List (List Value)).flatten.toArray) ∧ Mem w [tb] w' [tap tb bb bs' torn' 88] := by
  have hM := Mem.startT hT
  refine f_enter 56 Try.func27 rfl rfl rfl ?_
  intro a hE
  replace hE : Env a 56 [(0, _)] := hE
  refine wp_seq_k (fun K1 hK1 => ?_)
  refine wp_plain [false] rfl rfl ?_
  refine s_alloc [1, 1, 1, 1, 32, 32, 1, 1, 32, 32, 1, 1, 16, 32, 32, 1, 1, 16, 32, 32, 1, 1, 16, 32, 32, 1, 1, 16, 32, 32] hE hM zeroL39 rfl rfl ?_; clear hE a; intro a b2 w1 hE hM'
  clear hM; have hM := hM'; clear hM'
  refine q_nil ?_
  refine hK1 _ _ ?_
  refine wp_seq_k (fun K2 hK2 => ?_)
  refine wp_plain [true, false] rfl rfl ?_
  refine s_move hE rfl rfl ?_; clear hE a; intro a hE
  replace hM : Mem _ _ w1 [_, _] := hM.pick [1, 0] rfl
  refine s_call hE rfl Try.call41 (tapBytes_l tb bb bs torn 8 _ (hM.get 0 rfl)) rfl ?_
  rintro e w2 ⟨v8_1, c8_1, bx8_1, bl8_1, tn8_1, hvt8_1, hbx8_1, hbl8_1, rfl, hN⟩
  refine ⟨_, rfl, trivial, ?_⟩; clear hE a; intro a hE
  replace hM : Mem _ _ w2 [_, _, _] := hM.call1 hN (fun f hf x hx => (List.mem_cons.1 hf).elim (fun h => by subst h; exact .inl (hvt8_1 x (by first | exact hx | (rw [hbx8_1] at hx; exact hx)))) (fun h => by rw [List.mem_singleton.1 h] at hx; exact .inl hx)); clear hN
  refine q_nil ?_
  replace hE : Env a 56 [(0, _), (2, _)] := hE.sel [0, 2] rfl
  refine hK2 _ _ ?_
  refine wp_seq_k (fun K3 hK3 => ?_)
  refine wp_plain [true, false, true, true, false, true, true, true, false, false] rfl rfl ?_
  refine s_move hE rfl rfl ?_; clear hE a; intro a hE
  replace hM : Mem _ _ w2 [_, _, _] := hM.pick [1, 0, 2] rfl
  refine s_call hE rfl Try.call42 (tapNum_l tb bb bl8_1 tn8_1 1 256 _ (hM.get 0 rfl) (by decide)) rfl ?_
  rintro e w3 ⟨m10_2, bl10_2, tn10_2, hmm10_2, hbl10_2, rfl, hN⟩
  refine ⟨_, rfl, trivial, ?_⟩; clear hE a; intro a hE
  replace hM : Mem _ _ w3 [_, _, _] := hM.call1 hN (fun f hf x hx => by rw [List.mem_singleton.1 hf] at hx; exact .inl hx); clear hN
  refine s_conv hE rfl (cnv_int Try.underlying24 Try.underlying3 (wrap_i64 (by omega) (by omega))) rfl ?_; clear hE a; intro a hE
  refine s_move hE rfl rfl ?_; clear hE a; intro a hE
  refine s_call hE rfl Try.call42 (tapNum_l tb bb bl10_2 tn10_2 1 256 _ (hM.get 0 rfl) (by decide)) rfl ?_
  rintro e w4 ⟨m13_3, bl13_3, tn13_3, hmm13_3, hbl13_3, rfl, hN⟩
  refine ⟨_, rfl, trivial, ?_⟩; clear hE a; intro a hE
  replace hM : Mem _ _ w4 [_, _, _] := hM.call1 hN (fun f hf x hx => by rw [List.mem_singleton.1 hf] at hx; exact .inl hx); clear hN
  refine s_conv hE rfl (cnv_int Try.underlying24 Try.underlying3 (wrap_i64 (by omega) (by omega))) rfl ?_; clear hE a; intro a hE
  refine s_buildS [[.int .i64 ((m10_2 : Nat) : Int)], [.int .i64 ((m13_3 : Nat) : Int)]] hE rfl zero23 (by kernel_rfl) fpl23 (by first | (simp [PartsOk, Value.cells]; done) | (simp [PartsOk, Value.cells]; omega)) rfl ?_; clear hE a; intro a hE
  replace hE := hE.cast 15 rfl (show _ = Value.agg ([[.int .i64 ((m10_2 : Nat) : Int)], [.int .i64 ((m13_3 : Nat) : Int)]] : List (List Value)).flatten.toArray from (by first | rfl | simp [setAll] | (simp only [setAll, List.set_cons_zero, List.set_cons_succ, List.flatten_cons, List.flatten_nil, List.append_nil, List.append_assoc, List.replicate_succ, List.replicate_zero])))
  refine s_buildS [([[.int .i64 ((m10_2 : Nat) : Int)], [.int .i64 ((m13_3 : Nat) : Int)]] : List (List Value)).flatten] hE rfl zero39 (by kernel_rfl) fpl39 (by first | (simp [PartsOk, Value.cells]; done) | (simp [PartsOk, Value.cells]; omega)) rfl ?_; clear hE a; intro a hE
  replace hE := hE.cast 16 rfl (show _ = Value.agg ([[.int .i64 ((m10_2 : Nat) : Int)], [.int .i64 ((m13_3 : Nat) : Int)], [.bool false], [.int .u64 0], bv (List.replicate 32 (0 : UInt8)), bv (List.replicate 32 (0 : UInt8)), [.bool false], [.int .u64 0], bv (List.replicate 32 (0 : UInt8)), bv (List.replicate 32 (0 : UInt8)), [.bool false], [.int .i64 0], bv (List.replicate 16 (0 : UInt8)), bv (List.replicate 32 (0 : UInt8)), bv (List.replicate 32 (0 : UInt8)), [.bool false], [.int .i64 0], bv (List.replicate 16 (0 : UInt8)), bv (List.replicate 32 (0 : UInt8)), bv (List.replicate 32 (0 : UInt8)), [.bool false], [.int .i64 0], bv (List.replicate 16 (0 : UInt8)), bv (List.replicate 32 (0 : UInt8)), bv (List.replicate 32 (0 : UInt8)), [.bool false], [.int .i64 0], bv (List.replicate 16 (0 : UInt8)), bv (List.replicate 32 (0 : UInt8)), bv (List.replicate 32 (0 : UInt8))] : List (List Value)).flatten.toArray from (by first | rfl | simp [setAll] | (simp only [setAll, List.set_cons_zero, List.set_cons_succ, List.flatten_cons, List.flatten_nil, List.append_nil, List.append_assoc, List.replicate_succ, List.replicate_zero])))
  refine s_alloc [1, 1, 1, 1, 32, 32, 1, 1, 32, 32, 1, 1, 16, 32, 32, 1, 1, 16, 32, 32, 1, 1, 16, 32, 32, 1, 1, 16, 32, 32] hE hM zeroL39 rfl rfl ?_; clear hE a; intro a b3 w5 hE hM'
  clear hM; have hM := hM'; clear hM'
  have hsl42_4 : (List.replicate 32 (0 : UInt8)).length = 32 := List.length_replicate
  have hsl42_5 : (List.replicate 32 (0 : UInt8)).length = 32 := List.length_replicate
  have hsl42_8 : (List.replicate 32 (0 : UInt8)).length = 32 := List.length_replicate
  have hsl42_9 : (List.replicate 32 (0 : UInt8)).length = 32 := List.length_replicate
  have hsl42_12 : (List.replicate 16 (0 : UInt8)).length = 16 := List.length_replicate
  have hsl42_13 : (List.replicate 32 (0 : UInt8)).length = 32 := List.length_replicate
  have hsl42_14 : (List.replicate 32 (0 : UInt8)).length = 32 := List.length_replicate
  have hsl42_17 : (List.replicate 16 (0 : UInt8)).length = 16 := List.length_replicate
  have hsl42_18 : (List.replicate 32 (0 : UInt8)).length = 32 := List.length_replicate
  have hsl42_19 : (List.replicate 32 (0 : UInt8)).length = 32 := List.length_replicate
  have hsl42_22 : (List.replicate 16 (0 : UInt8)).length = 16 := List.length_replicate
  have hsl42_23 : (List.replicate 32 (0 : UInt8)).length = 32 := List.length_replicate
  have hsl42_24 : (List.replicate 32 (0 : UInt8)).length = 32 := List.length_replicate
  have hsl42_27 : (List.replicate 16 (0 : UInt8)).length = 16 := List.length_replicate
  have hsl42_28 : (List.replicate 32 (0 : UInt8)).length = 32 := List.length_replicate
  have hsl42_29 : (List.replicate 32 (0 : UInt8)).length = 32 := List.length_replicate
  refine s_storeSegs 0 30 (vss := [[.int .i64 ((m10_2 : Nat) : Int)], [.int .i64 ((m13_3 : Nat) : Int)], [.bool false], [.int .u64 0], bv (List.replicate 32 (0 : UInt8)), bv (List.replicate 32 (0 : UInt8)), [.bool false], [.int .u64 0], bv (List.replicate 32 (0 : UInt8)), bv (List.replicate 32 (0 : UInt8)), [.bool false], [.int .i64 0], bv (List.replicate 16 (0 : UInt8)), bv (List.replicate 32 (0 : UInt8)), bv (List.replicate 32 (0 : UInt8)), [.bool false], [.int .i64 0], bv (List.replicate 16 (0 : UInt8)), bv (List.replicate 32 (0 : UInt8)), bv (List.replicate 32 (0 : UInt8)), [.bool false], [.int .i64 0], bv (List.replicate 16 (0 : UInt8)), bv (List.replicate 32 (0 : UInt8)), bv (List.replicate 32 (0 : UInt8)), [.bool false], [.int .i64 0], bv (List.replicate 16 (0 : UInt8)), bv (List.replicate 32 (0 : UInt8)), bv (List.replicate 32 (0 : UInt8))]) hE rfl rfl hM rfl sz39 (by simp only [List.take_succ_cons, List.take_zero, List.drop_zero, List.drop_succ_cons]; simp only [List.map_cons, List.map_nil, bv_length, List.length_cons, List.length_nil, List.length_replicate, hsl42_4, hsl42_5, hsl42_8, hsl42_9, hsl42_12, hsl42_13, hsl42_14, hsl42_17, hsl42_18, hsl42_19, hsl42_22, hsl42_23, hsl42_24, hsl42_27, hsl42_28, hsl42_29]) (by decide) rfl (one_fl ⟨one1 rfl, one1 rfl, one1 rfl, one1 rfl, bv_one _, bv_one _, one1 rfl, one1 rfl, bv_one _, bv_one _, one1 rfl, one1 rfl, bv_one _, bv_one _, bv_one _, one1 rfl, one1 rfl, bv_one _, bv_one _, bv_one _, one1 rfl, one1 rfl, bv_one _, bv_one _, bv_one _, one1 rfl, one1 rfl, bv_one _, bv_one _, bv_one _, trivial⟩) rfl (by intro X h; cases h) ?_; intro w6 hM'; clear hM; have hM := hM'; clear hM'
  try simp only [List.take_zero, List.take_succ_cons, List.drop_zero, List.drop_succ_cons, List.take_nil, List.drop_nil, List.nil_append, List.append_nil, List.cons_append] at hM
  refine q_nil ?_
  replace hE : Env a 56 [(0, _), (2, _), (3, _)] := hE.sel [0, 2, 3] rfl
  refine hK3 _ _ ?_
  refine wp_seq_k (fun K4 hK4 => ?_)
  refine wp_seq_k (fun K5 hK5 => ?_)
  refine wp_plain [true] rfl rfl ?_
  refine s_move hE rfl rfl ?_; clear hE a; intro a hE
  refine q_nil ?_
  refine hK5 _ _ ?_
  refine wp_block ?_
  refine wp_loop_rounds 3 (c_rounds ?_)
  refine wp_seq_k (fun K6 hK6 => ?_)
  refine wp_plain [true] rfl rfl ?_
  refine s_bin hE rfl rfl bin_lss rfl ?_; clear hE a; intro a hE
  replace hE := hE.cast 18 rfl (show _ = Value.bool true from (congrArg Value.bool (by decide)))
  refine q_nil ?_
  refine hK6 _ _ ?_
  refine wp_seq_k (fun K7 hK7 => ?_)
  refine wp_cond_true (hE.eval rfl) ?_
  refine wp_skip ?_
  refine hK7 _ _ ?_
  refine wp_seq_k (fun K8 hK8 => ?_)
  refine wp_block ?_
  refine wp_seq_k (fun K9 hK9 => ?_)
  refine wp_plain [true, true] rfl rfl ?_
  refine s_move hE rfl rfl ?_; clear hE a; intro a hE
  refine s_assign hE rfl rfl ?_; clear hE a; intro a hE
  refine q_nil ?_
  replace hE : Env a 56 [(0, _), (2, _), (3, _), (4, _), (17, _), (18, _)] := hE.sel [0, 2, 3, 4, 17, 18] rfl
  refine hK9 _ _ ?_
  refine wp_plain [true, true, false, true, true, false, true, false, true, true, true, false] rfl rfl ?_
  refine s_move hE rfl rfl ?_; clear hE a; intro a hE
  refine s_move hE rfl rfl ?_; clear hE a; intro a hE
  replace hM : Mem _ _ w6 [_, _, _, _] := hM.pick [1, 0, 2, 3] rfl
  refine s_call hE rfl Try.call42 (tapNum_l tb bb bl13_3 tn13_3 1 256 _ (hM.get 0 rfl) (by decide)) rfl ?_
  rintro e w7 ⟨m22_4, bl22_4, tn22_4, hmm22_4, hbl22_4, rfl, hN⟩
  refine ⟨_, rfl, trivial, ?_⟩; clear hE a; intro a hE
  replace hM : Mem _ _ w7 [_, _, _, _] := hM.call1 hN (fun f hf x hx => by rw [List.mem_singleton.1 hf] at hx; exact .inl hx); clear hN
  refine s_bin hE rfl rfl bin_eql rfl ?_; clear hE a; intro a hE
  refine s_move hE rfl rfl ?_; clear hE a; intro a hE
  refine s_call hE rfl Try.call42 (tapNum_l tb bb bl22_4 tn22_4 8 18446744073709551616 _ (hM.get 0 rfl) (by decide)) rfl ?_
  rintro e w8 ⟨m25_5, bl25_5, tn25_5, hmm25_5, hbl25_5, rfl, hN⟩
  refine ⟨_, rfl, trivial, ?_⟩; clear hE a; intro a hE
  replace hM : Mem _ _ w8 [_, _, _, _] := hM.call1 hN (fun f hf x hx => by rw [List.mem_singleton.1 hf] at hx; exact .inl hx); clear hN
  refine s_move hE rfl rfl ?_; clear hE a; intro a hE
  refine s_call hE rfl Try.call43 (hwrapped_l tb bb bl25_5 tn25_5 _ (hM.get 0 rfl) (by omega)) rfl ?_
  rintro e w9 ⟨d27_6, t27_6, bl27_6, tn27_6, hd27_6, ht27_6, hbl27_6, rfl, hN⟩
  refine ⟨_, rfl, trivial, ?_⟩; clear hE a; intro a hE
  replace hM : Mem _ _ w9 [_, _, _, _] := hM.call1 hN (fun f hf x hx => by rw [List.mem_singleton.1 hf] at hx; exact .inl hx); clear hN
  have hbd28_2_0 : d27_6.length = 32 := hd27_6
  have hbd28_2_1 : t27_6.length = 32 := ht27_6
  refine s_buildS [[.bool (decide (((m22_4 : Nat) : Int) = 1))], [.int .u64 ((m25_5 : Nat) : Int)], ([bv d27_6, bv t27_6] : List (List Value)).flatten] hE rfl zero31 (by kernel_rfl) fpl31 (by first | (simp [PartsOk, Value.cells, hbd28_2_0, hbd28_2_1]; done) | (simp [PartsOk, Value.cells, hbd28_2_0, hbd28_2_1]; omega)) rfl ?_; clear hE a; intro a hE
  replace hE := hE.cast 28 rfl (show _ = Value.agg ([[.bool (decide (((m22_4 : Nat) : Int) = 1))], [.int .u64 ((m25_5 : Nat) : Int)], bv d27_6, bv t27_6] : List (List Value)).flatten.toArray from (by first | rfl | simp [setAll] | (simp only [setAll, List.set_cons_zero, List.set_cons_succ, List.flatten_cons, List.flatten_nil, List.append_nil, List.append_assoc, List.replicate_succ, List.replicate_zero])))
  refine s_fieldAddr hE rfl fo39_1 rfl ?_; clear hE a; intro a hE
  refine s_indexArr (j := 0) hE rfl rfl arr32 rfl (by decide) rfl ?_; clear hE a; intro a hE
  have hsl115_2 : d27_6.length = 32 := hd27_6
  have hsl115_3 : t27_6.length = 32 := ht27_6
  replace hM : Mem _ _ w9 [_, _, _, _] := hM.pick [1, 0, 2, 3] rfl
  refine s_storeSegs 2 4 (vss := [[.bool (decide (((m22_4 : Nat) : Int) = 1))], [.int .u64 ((m25_5 : Nat) : Int)], bv d27_6, bv t27_6]) hE rfl rfl hM rfl sz31 (by simp only [List.take_succ_cons, List.take_zero, List.drop_zero, List.drop_succ_cons]; simp only [List.map_cons, List.map_nil, bv_length, List.length_cons, List.length_nil, List.length_replicate, hsl115_2, hsl115_3]) (by decide) rfl (one_fl ⟨one1 rfl, one1 rfl, bv_one _, bv_one _, trivial⟩) rfl (by intro X h; cases h) ?_; intro w10 hM'; clear hM; have hM := hM'; clear hM'
  try simp only [List.take_zero, List.take_succ_cons, List.drop_zero, List.drop_succ_cons, List.take_nil, List.drop_nil, List.nil_append, List.append_nil, List.cons_append] at hM
  refine q_nil ?_
  replace hE : Env a 56 [(0, _), (2, _), (3, _), (4, _), (17, _), (18, _)] := hE.sel [0, 2, 3, 4, 17, 18] rfl
  refine q_block_n ?_
  refine hK8 _ _ ?_
  refine wp_plain [true, true] rfl rfl ?_
  refine s_bin hE rfl rfl (show Bin _ _ _ _ _ (.int .i64 1) from bin_add (by rw [wrap_i64 (by omega) (by omega)]; omega)) rfl ?_; clear hE a; intro a hE
  refine s_move hE rfl rfl ?_; clear hE a; intro a hE
  refine q_nil ?_
  replace hE : Env a 56 [(0, _), (2, _), (3, _), (4, _), (17, _), (18, _)] := hE.sel [0, 2, 3, 4, 17, 18] rfl
  replace hM : Mem _ _ w10 [_, _, _, _] := hM.pick [0, 1, 2, 3] rfl
  refine q_then_n (c_rounds ?_)
  refine wp_seq_k (fun K10 hK10 => ?_)
  refine wp_plain [true] rfl rfl ?_
  refine s_bin hE rfl rfl bin_lss rfl ?_; clear hE a; intro a hE
  replace hE := hE.cast 18 rfl (show _ = Value.bool true from (congrArg Value.bool (by decide)))
  refine q_nil ?_
  refine hK10 _ _ ?_
  refine wp_seq_k (fun K11 hK11 => ?_)
  refine wp_cond_true (hE.eval rfl) ?_
  refine wp_skip ?_
  refine hK11 _ _ ?_
  refine wp_seq_k (fun K12 hK12 => ?_)
  refine wp_block ?_
  refine wp_seq_k (fun K13 hK13 => ?_)
  refine wp_plain [true, true] rfl rfl ?_
  refine s_move hE rfl rfl ?_; clear hE a; intro a hE
  refine s_assign hE rfl rfl ?_; clear hE a; intro a hE
  refine q_nil ?_
  replace hE : Env a 56 [(0, _), (2, _), (3, _), (4, _), (17, _), (18, _)] := hE.sel [0, 2, 3, 4, 17, 18] rfl
  refine hK13 _ _ ?_
  refine wp_plain [true, true, false, true, true, false, true, false, true, true, true, false] rfl rfl ?_
  refine s_move hE rfl rfl ?_; clear hE a; intro a hE
  refine s_move hE rfl rfl ?_; clear hE a; intro a hE
  replace hM : Mem _ _ w10 [_, _, _, _] := hM.pick [1, 0, 2, 3] rfl
  refine s_call hE rfl Try.call42 (tapNum_l tb bb bl27_6 tn27_6 1 256 _ (hM.get 0 rfl) (by decide)) rfl ?_
  rintro e w11 ⟨m22_7, bl22_7, tn22_7, hmm22_7, hbl22_7, rfl, hN⟩
  refine ⟨_, rfl, trivial, ?_⟩; clear hE a; intro a hE
  replace hM : Mem _ _ w11 [_, _, _, _] := hM.call1 hN (fun f hf x hx => by rw [List.mem_singleton.1 hf] at hx; exact .inl hx); clear hN
  refine s_bin hE rfl rfl bin_eql rfl ?_; clear hE a; intro a hE
  refine s_move hE rfl rfl ?_; clear hE a; intro a hE
  refine s_call hE rfl Try.call42 (tapNum_l tb bb bl22_7 tn22_7 8 18446744073709551616 _ (hM.get 0 rfl) (by decide)) rfl ?_
  rintro e w12 ⟨m25_8, bl25_8, tn25_8, hmm25_8, hbl25_8, rfl, hN⟩
  refine ⟨_, rfl, trivial, ?_⟩; clear hE a; intro a hE
  replace hM : Mem _ _ w12 [_, _, _, _] := hM.call1 hN (fun f hf x hx => by rw [List.mem_singleton.1 hf] at hx; exact .inl hx); clear hN
  refine s_move hE rfl rfl ?_; clear hE a; intro a hE
  refine s_call hE rfl Try.call43 (hwrapped_l tb bb bl25_8 tn25_8 _ (hM.get 0 rfl) (by omega)) rfl ?_
  rintro e w13 ⟨d27_9, t27_9, bl27_9, tn27_9, hd27_9, ht27_9, hbl27_9, rfl, hN⟩
  refine ⟨_, rfl, trivial, ?_⟩; clear hE a; intro a hE
  replace hM : Mem _ _ w13 [_, _, _, _] := hM.call1 hN (fun f hf x hx => by rw [List.mem_singleton.1 hf] at hx; exact .inl hx); clear hN
  have hbd28_2_0 : d27_9.length = 32 := hd27_9
  have hbd28_2_1 : t27_9.length = 32 := ht27_9
  refine s_buildS [[.bool (decide (((m22_7 : Nat) : Int) = 1))], [.int .u64 ((m25_8 : Nat) : Int)], ([bv d27_9, bv t27_9] : List (List Value)).flatten] hE rfl zero31 (by kernel_rfl) fpl31 (by first | (simp [PartsOk, Value.cells, hbd28_2_0, hbd28_2_1]; done) | (simp [PartsOk, Value.cells, hbd28_2_0, hbd28_2_1]; omega)) rfl ?_; clear hE a; intro a hE
  replace hE := hE.cast 28 rfl (show _ = Value.agg ([[.bool (decide (((m22_7 : Nat) : Int) = 1))], [.int .u64 ((m25_8 : Nat) : Int)], bv d27_9, bv t27_9] : List (List Value)).flatten.toArray from (by first | rfl | simp [setAll] | (simp only [setAll, List.set_cons_zero, List.set_cons_succ, List.flatten_cons, List.flatten_nil, List.append_nil, List.append_assoc, List.replicate_succ, List.replicate_zero])))
  refine s_fieldAddr hE rfl fo39_1 rfl ?_; clear hE a; intro a hE
  refine s_indexArr (j := 1) hE rfl rfl arr32 rfl (by decide) rfl ?_; clear hE a; intro a hE
  have hsl175_2 : d27_9.length = 32 := hd27_9
  have hsl175_3 : t27_9.length = 32 := ht27_9
  replace hM : Mem _ _ w13 [_, _, _, _] := hM.pick [1, 0, 2, 3] rfl
  refine s_storeSegs 6 4 (vss := [[.bool (decide (((m22_7 : Nat) : Int) = 1))], [.int .u64 ((m25_8 : Nat) : Int)], bv d27_9, bv t27_9]) hE rfl rfl hM rfl sz31 (by simp only [List.take_succ_cons, List.take_zero, List.drop_zero, List.drop_succ_cons]; simp only [List.map_cons, List.map_nil, bv_length, List.length_cons, List.length_nil, List.length_replicate, hsl175_2, hsl175_3]) (by decide) rfl (one_fl ⟨one1 rfl, one1 rfl, bv_one _, bv_one _, trivial⟩) rfl (by intro X h; cases h) ?_; intro w14 hM'; clear hM; have hM := hM'; clear hM'
  try simp only [List.take_zero, List.take_succ_cons, List.drop_zero, List.drop_succ_cons, List.take_nil, List.drop_nil, List.nil_append, List.append_nil, List.cons_append] at hM
  refine q_nil ?_
  replace hE : Env a 56 [(0, _), (2, _), (3, _), (4, _), (17, _), (18, _)] := hE.sel [0, 2, 3, 4, 17, 18] rfl
  refine q_block_n ?_
  refine hK12 _ _ ?_
  refine wp_plain [true, true] rfl rfl ?_
  refine s_bin hE rfl rfl (show Bin _ _ _ _ _ (.int .i64 2) from bin_add (by rw [wrap_i64 (by omega) (by omega)]; omega)) rfl ?_; clear hE a; intro a hE
  refine s_move hE rfl rfl ?_; clear hE a; intro a hE
  refine q_nil ?_
  replace hE : Env a 56 [(0, _), (2, _), (3, _), (4, _), (17, _), (18, _)] := hE.sel [0, 2, 3, 4, 17, 18] rfl
  replace hM : Mem _ _ w14 [_, _, _, _] := hM.pick [0, 1, 2, 3] rfl
  refine q_then_n (c_rounds ?_)
  refine wp_seq_k (fun K14 hK14 => ?_)
  refine wp_plain [true] rfl rfl ?_
  refine s_bin hE rfl rfl bin_lss rfl ?_; clear hE a; intro a hE
  replace hE := hE.cast 18 rfl (show _ = Value.bool false from (congrArg Value.bool (by decide)))
  refine q_nil ?_
  refine hK14 _ _ ?_
  refine wp_seq_k (fun K15 hK15 => ?_)
  refine wp_cond_false (hE.eval rfl) ?_
  refine wp_exit ?_
  refine q_then_e ?_
  refine q_then_e ?_
  refine q_block_x ?_
  refine hK4 _ _ ?_
  refine wp_seq_k (fun K16 hK16 => ?_)
  refine wp_seq_k (fun K17 hK17 => ?_)
  refine wp_plain [true] rfl rfl ?_
  refine s_move hE rfl rfl ?_; clear hE a; intro a hE
  refine q_nil ?_
  refine hK17 _ _ ?_
  refine wp_block ?_
  refine wp_loop_rounds 5 (c_rounds ?_)
  refine wp_seq_k (fun K18 hK18 => ?_)
  refine wp_plain [true] rfl rfl ?_
  refine s_bin hE rfl rfl bin_lss rfl ?_; clear hE a; intro a hE
  replace hE := hE.cast 33 rfl (show _ = Value.bool true from (congrArg Value.bool (by decide)))
  refine q_nil ?_
  refine hK18 _ _ ?_
  refine wp_seq_k (fun K19 hK19 => ?_)
  refine wp_cond_true (hE.eval rfl) ?_
  refine wp_skip ?_
  refine hK19 _ _ ?_
  refine wp_seq_k (fun K20 hK20 => ?_)
  refine wp_block ?_
  refine wp_seq_k (fun K21 hK21 => ?_)
  refine wp_plain [true, true] rfl rfl ?_
  refine s_move hE rfl rfl ?_; clear hE a; intro a hE
  refine s_assign hE rfl rfl ?_; clear hE a; intro a hE
  refine q_nil ?_
  replace hE : Env a 56 [(0, _), (2, _), (3, _), (4, _), (5, _), (17, _), (18, _), (32, _), (33, _)] := hE.sel [0, 2, 3, 4, 5, 17, 18, 32, 33] rfl
  refine hK21 _ _ ?_
  refine wp_seq_k (fun K22 hK22 => ?_)
  refine wp_plain [true, false, true, true, false, true, true, false, false] rfl rfl ?_
  refine s_move hE rfl rfl ?_; clear hE a; intro a hE
  replace hM : Mem _ _ w14 [_, _, _, _] := hM.pick [1, 0, 2, 3] rfl
  refine s_call hE rfl Try.call42 (tapNum_l tb bb bl27_9 tn27_9 1 256 _ (hM.get 0 rfl) (by decide)) rfl ?_
  rintro e w15 ⟨m36_10, bl36_10, tn36_10, hmm36_10, hbl36_10, rfl, hN⟩
  refine ⟨_, rfl, trivial, ?_⟩; clear hE a; intro a hE
  replace hM : Mem _ _ w15 [_, _, _, _] := hM.call1 hN (fun f hf x hx => by rw [List.mem_singleton.1 hf] at hx; exact .inl hx); clear hN
  refine s_bin hE rfl rfl bin_eql rfl ?_; clear hE a; intro a hE
  refine s_move hE rfl rfl ?_; clear hE a; intro a hE
  refine s_call hE rfl Try.call42 (tapNum_l tb bb bl36_10 tn36_10 4 4294967296 _ (hM.get 0 rfl) (by decide)) rfl ?_
  rintro e w16 ⟨m39_11, bl39_11, tn39_11, hmm39_11, hbl39_11, rfl, hN⟩
  refine ⟨_, rfl, trivial, ?_⟩; clear hE a; intro a hE
  replace hM : Mem _ _ w16 [_, _, _, _] := hM.call1 hN (fun f hf x hx => by rw [List.mem_singleton.1 hf] at hx; exact .inl hx); clear hN
  refine s_conv hE rfl (cnv_int Try.underlying24 Try.underlying3 (wrap_i64 (by omega) (by omega))) rfl ?_; clear hE a; intro a hE
  refine s_buildS [[.bool (decide (((m36_10 : Nat) : Int) = 1))], [.int .i64 ((m39_11 : Nat) : Int)]] hE rfl zero36 (by kernel_rfl) fpl36 (by first | (simp [PartsOk, Value.cells]; done) | (simp [PartsOk, Value.cells]; omega)) rfl ?_; clear hE a; intro a hE
  replace hE := hE.cast 41 rfl (show _ = Value.agg ([[.bool (decide (((m36_10 : Nat) : Int) = 1))], [.int .i64 ((m39_11 : Nat) : Int)], bv (List.replicate 16 (0 : UInt8)), bv (List.replicate 32 (0 : UInt8)), bv (List.replicate 32 (0 : UInt8))] : List (List Value)).flatten.toArray from (by first | rfl | simp [setAll] | (simp only [setAll, List.set_cons_zero, List.set_cons_succ, List.flatten_cons, List.flatten_nil, List.append_nil, List.append_assoc, List.replicate_succ, List.replicate_zero])))
  refine s_alloc [1, 1, 16, 32, 32] hE hM zeroL36 rfl rfl ?_; clear hE a; intro a b6 w17 hE hM'
  clear hM; have hM := hM'; clear hM'
  have hsl250_2 : (List.replicate 16 (0 : UInt8)).length = 16 := List.length_replicate
  have hsl250_3 : (List.replicate 32 (0 : UInt8)).length = 32 := List.length_replicate
  have hsl250_4 : (List.replicate 32 (0 : UInt8)).length = 32 := List.length_replicate
  refine s_storeSegs 0 5 (vss := [[.bool (decide (((m36_10 : Nat) : Int) = 1))], [.int .i64 ((m39_11 : Nat) : Int)], bv (List.replicate 16 (0 : UInt8)), bv (List.replicate 32 (0 : UInt8)), bv (List.replicate 32 (0 : UInt8))]) hE rfl rfl hM rfl sz36 (by simp only [List.take_succ_cons, List.take_zero, List.drop_zero, List.drop_succ_cons]; simp only [List.map_cons, List.map_nil, bv_length, List.length_cons, List.length_nil, List.length_replicate, hsl250_2, hsl250_3, hsl250_4]) (by decide) rfl (one_fl ⟨one1 rfl, one1 rfl, bv_one _, bv_one _, bv_one _, trivial⟩) rfl (by intro X h; cases h) ?_; intro w18 hM'; clear hM; have hM := hM'; clear hM'
  try simp only [List.take_zero, List.take_succ_cons, List.drop_zero, List.drop_succ_cons, List.take_nil, List.drop_nil, List.nil_append, List.append_nil, List.cons_append] at hM
  refine q_nil ?_
  replace hE : Env a 56 [(0, _), (2, _), (3, _), (4, _), (5, _), (6, _), (17, _), (18, _), (32, _), (33, _)] := hE.sel [0, 2, 3, 4, 5, 6, 17, 18, 32, 33] rfl
  refine hK22 _ _ ?_
  refine wp_seq_k (fun K23 hK23 => ?_)
  refine wp_treeM hM (by kernel_rfl) (fun _ => True) (fun _ => True) (.re [(0, true), (1, true), (2, true), (3, false), (4, false)] (.fl 3 (.fl 0 (.weak (.or 3 (.cut (.re [(4, false)] (.fl 0 (.fl 0 (.weak (.or 4 (.cut (.re [] (.weak (.leaf 0)))) (.stop))))))) (.stop)))))) [(0, true), (1, true), (2, true), (3, false), (4, false)] [(0, [(1, 0), (4, 1)]), (1, [(4, 1)]), (3, [(4, 3)]), (4, [])] (by kernel_rfl) ?_
  intro w19 hM' hww19; clear hM; have hM := hM'; clear hM'
  refine o_re ?_
  refine o_fl rfl ?_
  refine s_fieldAddr hE rfl fo36_2 rfl ?_; clear hE a; intro a hE
  refine s_sliceArr (l := 0) (h := 16) (mx' := 16) hE rfl arr34 rfl rfl rfl (by simp) (by omega) (by omega) (by omega) rfl ?_; clear hE a; intro a hE
  replace hE := hE.cast 43 rfl (show _ = Value.slice (some ⟨b6, 2, none⟩) 16 16 from rfl)
  refine s_move hE rfl rfl ?_; clear hE a; intro a hE
  refine q_nil (q_nx ?_)
  refine o_fl rfl ?_
  refine q_nil (q_nx ?_)
  refine o_weak (fun b => b ∈ [tb]) (fun _ _ => trivial) ?_
  refine o_or rfl ?_ ?_
  · replace hM : Mem _ _ w19 [_, _, _, _, _] := hM.pick [1, 0, 2, 3, 4] rfl
    refine s_call hE rfl Try.call41 (tapBytes_l tb bb bl39_11 tn39_11 16 _ (hM.get 0 rfl)) rfl ?_
    rintro e w20 ⟨v45_12, c45_12, bx45_12, bl45_12, tn45_12, hvt45_12, hbx45_12, hbl45_12, rfl, hN⟩
    refine ⟨_, rfl, hN.sta, ?_⟩; clear hE a; intro a hE
    replace hM : Mem _ _ w20 [_, _, _, _, _, _] := hM.call1 hN (fun f hf x hx => (List.mem_cons.1 hf).elim (fun h => by subst h; exact .inl (hvt45_12 x (by first | exact hx | (rw [hbx45_12] at hx; exact hx)))) (fun h => by rw [List.mem_singleton.1 h] at hx; exact .inl hx)); clear hN
    refine q_nil (q_nx ?_)
    refine o_cut (fun _ => True) ?_
    refine o_re ?_
    refine o_fl rfl ?_
    refine q_nil (q_nx ?_)
    refine o_fl rfl ?_
    refine q_nil (q_nx ?_)
    refine o_weak (fun b => b = b6) (fun _ _ => trivial) ?_
    refine o_or rfl ?_ ?_
    · replace hM : Mem _ _ w20 [_, _, _, _, _, _] := hM.pick [2, 0, 1, 3, 4, 5] rfl
      refine s_copySegG 2 (old := List.replicate 16 (0 : UInt8)) (src := bx45_12) hE rfl rfl hM (hM.get 1 rfl) sl55 rfl List.length_replicate rfl (by intro X h; cases h; rfl) rfl ?_; clear hE a; intro a w22 hE hM'; clear hM; have hM := hM'; clear hM'
      simp only [List.set_cons_zero, List.set_cons_succ] at hM
      refine q_nil (q_nx ?_)
      refine o_cut (fun _ => True) ?_
      refine o_re ?_
      refine o_weak (fun _ => False) (fun _ _ => trivial) ?_
      refine o_leaf rfl rfl ?_
      refine q_nil (q_ph (q_nil ?_))
      replace hE : Env a 56 [(0, _), (2, _), (3, _), (4, _), (5, _), (6, _), (17, _), (18, _), (32, _), (33, _)] := hE.sel [0, 2, 3, 4, 5, 6, 17, 18, 32, 33] rfl
      refine hK23 _ _ ?_
      refine wp_seq_k (fun K24 hK24 => ?_)
      refine wp_plain [true, false, true, false] rfl rfl ?_
      refine s_move hE rfl rfl ?_; clear hE a; intro a hE
      replace hM : Mem _ _ w22 [_, _, _, _, _, _] := hM.pick [2, 0, 1, 3, 4, 5] rfl
      refine s_call hE rfl Try.call43 (hwrapped_l tb bb bl45_12 tn45_12 _ (hM.get 0 rfl) (by omega)) rfl ?_
      rintro e w23 ⟨d48_13, t48_13, bl48_13, tn48_13, hd48_13, ht48_13, hbl48_13, rfl, hN⟩
      refine ⟨_, rfl, trivial, ?_⟩; clear hE a; intro a hE
      replace hM : Mem _ _ w23 [_, _, _, _, _, _] := hM.call1 hN (fun f hf x hx => by rw [List.mem_singleton.1 hf] at hx; exact .inl hx); clear hN
      refine s_fieldAddr hE rfl fo36_3 rfl ?_; clear hE a; intro a hE
      have hsl306_0 : d48_13.length = 32 := hd48_13
      have hsl306_1 : t48_13.length = 32 := ht48_13
      replace hM : Mem _ _ w23 [_, _, _, _, _, _] := hM.pick [1, 0, 2, 3, 4, 5] rfl
      refine s_storeSegs 3 2 (vss := [bv d48_13, bv t48_13]) hE rfl rfl hM rfl sz29 (by simp only [List.take_succ_cons, List.take_zero, List.drop_zero, List.drop_succ_cons]; simp only [List.map_cons, List.map_nil, bv_length, List.length_cons, List.length_nil, List.length_replicate, hsl306_0, hsl306_1]) (by decide) rfl (one_fl ⟨bv_one _, bv_one _, trivial⟩) rfl (by intro X h; cases h) ?_; intro w24 hM'; clear hM; have hM := hM'; clear hM'
      try simp only [List.take_zero, List.take_succ_cons, List.drop_zero, List.drop_succ_cons, List.take_nil, List.drop_nil, List.nil_append, List.append_nil, List.cons_append] at hM
      refine q_nil ?_
      replace hE : Env a 56 [(0, _), (2, _), (3, _), (4, _), (5, _), (6, _), (17, _), (18, _), (32, _), (33, _)] := hE.sel [0, 2, 3, 4, 5, 6, 17, 18, 32, 33] rfl
      refine hK24 _ _ ?_
      refine wp_plain [true, true, true, true, false] rfl rfl ?_
      refine s_move hE rfl rfl ?_; clear hE a; intro a hE
      refine s_loadN hE rfl (hM.get 0 rfl) row36 rfl (by intro X h; cases h) rfl ?_; clear hE a; intro a hE
      replace hE := hE.cast 51 rfl (show _ = Value.agg ([[.bool (decide (((m36_10 : Nat) : Int) = 1))], [.int .i64 ((m39_11 : Nat) : Int)], bv (bx45_12.take 16 ++ (List.replicate 16 (0 : UInt8)).drop bx45_12.length), bv d48_13, bv t48_13] : List (List Value)).flatten.toArray from (by first | rfl | simp only [List.flatten_cons, List.flatten_nil, List.append_nil, List.append_assoc]))
      refine s_fieldAddr hE rfl fo39_2 rfl ?_; clear hE a; intro a hE
      refine s_indexArr (j := 0) hE rfl rfl arr37 rfl (by decide) rfl ?_; clear hE a; intro a hE
      have hsl320_2 : (bx45_12.take 16 ++ (List.replicate 16 (0 : UInt8)).drop bx45_12.length).length = 16 := (cpyG_len List.length_replicate)
      have hsl320_3 : d48_13.length = 32 := hd48_13
      have hsl320_4 : t48_13.length = 32 := ht48_13
      replace hM : Mem _ _ w24 [_, _, _, _, _, _] := hM.pick [3, 0, 1, 2, 4, 5] rfl
      refine s_storeSegs 10 5 (vss := [[.bool (decide (((m36_10 : Nat) : Int) = 1))], [.int .i64 ((m39_11 : Nat) : Int)], bv (bx45_12.take 16 ++ (List.replicate 16 (0 : UInt8)).drop bx45_12.length), bv d48_13, bv t48_13]) hE rfl rfl hM rfl sz36 (by simp only [List.take_succ_cons, List.take_zero, List.drop_zero, List.drop_succ_cons]; simp only [List.map_cons, List.map_nil, bv_length, List.length_cons, List.length_nil, List.length_replicate, hsl320_2, hsl320_3, hsl320_4]) (by decide) rfl (one_fl ⟨one1 rfl, one1 rfl, bv_one _, bv_one _, bv_one _, trivial⟩) rfl (by intro X h; cases h) ?_; intro w25 hM'; clear hM; have hM := hM'; clear hM'
      try simp only [List.take_zero, List.take_succ_cons, List.drop_zero, List.drop_succ_cons, List.take_nil, List.drop_nil, List.nil_append, List.append_nil, List.cons_append] at hM
      refine q_nil ?_
      replace hE : Env a 56 [(0, _), (2, _), (3, _), (4, _), (5, _), (6, _), (17, _), (18, _), (32, _), (33, _)] := hE.sel [0, 2, 3, 4, 5, 6, 17, 18, 32, 33] rfl
      refine q_block_n ?_
      refine hK20 _ _ ?_
      refine wp_plain [true, true] rfl rfl ?_
      refine s_bin hE rfl rfl (show Bin _ _ _ _ _ (.int .i64 1) from bin_add (by rw [wrap_i64 (by omega) (by omega)]; omega)) rfl ?_; clear hE a; intro a hE
      refine s_move hE rfl rfl ?_; clear hE a; intro a hE
      refine q_nil ?_
      replace hE : Env a 56 [(0, _), (2, _), (3, _), (4, _), (5, _), (6, _), (17, _), (18, _), (32, _), (33, _)] := hE.sel [0, 2, 3, 4, 5, 6, 17, 18, 32, 33] rfl
      replace hM : Mem _ _ w25 [_, _, _, _, _] := hM.pick [0, 1, 2, 4, 5] rfl
      refine q_then_n (c_rounds ?_)
      refine wp_seq_k (fun K25 hK25 => ?_)
      refine wp_plain [true] rfl rfl ?_
      refine s_bin hE rfl rfl bin_lss rfl ?_; clear hE a; intro a hE
      replace hE := hE.cast 33 rfl (show _ = Value.bool true from (congrArg Value.bool (by decide)))
      refine q_nil ?_
      refine hK25 _ _ ?_
      refine wp_seq_k (fun K26 hK26 => ?_)
      refine wp_cond_true (hE.eval rfl) ?_
      refine wp_skip ?_
      refine hK26 _ _ ?_
      refine wp_seq_k (fun K27 hK27 => ?_)
      refine wp_block ?_
      refine wp_seq_k (fun K28 hK28 => ?_)
      refine wp_plain [true, true] rfl rfl ?_
      refine s_move hE rfl rfl ?_; clear hE a; intro a hE
      refine s_assign hE rfl rfl ?_; clear hE a; intro a hE
      refine q_nil ?_
      replace hE : Env a 56 [(0, _), (2, _), (3, _), (4, _), (5, _), (6, _), (17, _), (18, _), (32, _), (33, _)] := hE.sel [0, 2, 3, 4, 5, 6, 17, 18, 32, 33] rfl
      refine hK28 _ _ ?_
      refine wp_seq_k (fun K29 hK29 => ?_)
      refine wp_plain [true, false, true, true, false, true, true, false, false] rfl rfl ?_
      refine s_move hE rfl rfl ?_; clear hE a; intro a hE
      replace hM : Mem _ _ w25 [_, _, _, _, _] := hM.pick [2, 0, 1, 3, 4] rfl
      refine s_call hE rfl Try.call42 (tapNum_l tb bb bl48_13 tn48_13 1 256 _ (hM.get 0 rfl) (by decide)) rfl ?_
      rintro e w26 ⟨m36_14, bl36_14, tn36_14, hmm36_14, hbl36_14, rfl, hN⟩
      refine ⟨_, rfl, trivial, ?_⟩; clear hE a; intro a hE
      replace hM : Mem _ _ w26 [_, _, _, _, _] := hM.call1 hN (fun f hf x hx => by rw [List.mem_singleton.1 hf] at hx; exact .inl hx); clear hN
      refine s_bin hE rfl rfl bin_eql rfl ?_; clear hE a; intro a hE
      refine s_move hE rfl rfl ?_; clear hE a; intro a hE
      refine s_call hE rfl Try.call42 (tapNum_l tb bb bl36_14 tn36_14 4 4294967296 _ (hM.get 0 rfl) (by decide)) rfl ?_
      rintro e w27 ⟨m39_15, bl39_15, tn39_15, hmm39_15, hbl39_15, rfl, hN⟩
      refine ⟨_, rfl, trivial, ?_⟩; clear hE a; intro a hE
      replace hM : Mem _ _ w27 [_, _, _, _, _] := hM.call1 hN (fun f hf x hx => by rw [List.mem_singleton.1 hf] at hx; exact .inl hx); clear hN
      refine s_conv hE rfl (cnv_int Try.underlying24 Try.underlying3 (wrap_i64 (by omega) (by omega))) rfl ?_; clear hE a; intro a hE
      refine s_buildS [[.bool (decide (((m36_14 : Nat) : Int) = 1))], [.int .i64 ((m39_15 : Nat) : Int)]] hE rfl zero36 (by kernel_rfl) fpl36 (by first | (simp [PartsOk, Value.cells]; done) | (simp [PartsOk, Value.cells]; omega)) rfl ?_; clear hE a; intro a hE
      replace hE := hE.cast 41 rfl (show _ = Value.agg ([[.bool (decide (((m36_14 : Nat) : Int) = 1))], [.int .i64 ((m39_15 : Nat) : Int)], bv (List.replicate 16 (0 : UInt8)), bv (List.replicate 32 (0 : UInt8)), bv (List.replicate 32 (0 : UInt8))] : List (List Value)).flatten.toArray from (by first | rfl | simp [setAll] | (simp only [setAll, List.set_cons_zero, List.set_cons_succ, List.flatten_cons, List.flatten_nil, List.append_nil, List.append_assoc, List.replicate_succ, List.replicate_zero])))
      refine s_alloc [1, 1, 16, 32, 32] hE hM zeroL36 rfl rfl ?_; clear hE a; intro a b6 w28 hE hM'
      clear hM; have hM := hM'; clear hM'
      have hsl375_2 : (List.replicate 16 (0 : UInt8)).length = 16 := List.length_replicate
      have hsl375_3 : (List.replicate 32 (0 : UInt8)).length = 32 := List.length_replicate
      have hsl375_4 : (List.replicate 32 (0 : UInt8)).length = 32 := List.length_replicate
      replace hM : Mem _ _ w28 [_, _, _, _, _] := hM.pick [0, 1, 2, 4, 5] rfl
      refine s_storeSegs 0 5 (vss := [[.bool (decide (((m36_14 : Nat) : Int) = 1))], [.int .i64 ((m39_15 : Nat) : Int)], bv (List.replicate 16 (0 : UInt8)), bv (List.replicate 32 (0 : UInt8)), bv (List.replicate 32 (0 : UInt8))]) hE rfl rfl hM rfl sz36 (by simp only [List.take_succ_cons, List.take_zero, List.drop_zero, List.drop_succ_cons]; simp only [List.map_cons, List.map_nil, bv_length, List.length_cons, List.length_nil, List.length_replicate, hsl375_2, hsl375_3, hsl375_4]) (by decide) rfl (one_fl ⟨one1 rfl, one1 rfl, bv_one _, bv_one _, bv_one _, trivial⟩) rfl (by intro X h; cases h) ?_; intro w29 hM'; clear hM; have hM := hM'; clear hM'
      try simp only [List.take_zero, List.take_succ_cons, List.drop_zero, List.drop_succ_cons, List.take_nil, List.drop_nil, List.nil_append, List.append_nil, List.cons_append] at hM
      refine q_nil ?_
      replace hE : Env a 56 [(0, _), (2, _), (3, _), (4, _), (5, _), (6, _), (17, _), (18, _), (32, _), (33, _)] := hE.sel [0, 2, 3, 4, 5, 6, 17, 18, 32, 33] rfl
      refine hK29 _ _ ?_
      refine wp_seq_k (fun K30 hK30 => ?_)
      refine wp_treeM hM (by kernel_rfl) (fun _ => True) (fun _ => True) (.re [(0, true), (1, true), (2, true), (3, false), (4, false)] (.fl 3 (.fl 0 (.weak (.or 3 (.cut (.re [(4, false)] (.fl 0 (.fl 0 (.weak (.or 4 (.cut (.re [] (.weak (.leaf 0)))) (.stop))))))) (.stop)))))) [(0, true), (1, true), (2, true), (3, false), (4, false)] [(0, [(1, 0), (4, 1)]), (1, [(4, 1)]), (3, [(4, 3)]), (4, [])] (by kernel_rfl) ?_
      intro w30 hM' hww30; clear hM; have hM := hM'; clear hM'
      refine o_re ?_
      refine o_fl rfl ?_
      refine s_fieldAddr hE rfl fo36_2 rfl ?_; clear hE a; intro a hE
      refine s_sliceArr (l := 0) (h := 16) (mx' := 16) hE rfl arr34 rfl rfl rfl (by simp) (by omega) (by omega) (by omega) rfl ?_; clear hE a; intro a hE
      replace hE := hE.cast 43 rfl (show _ = Value.slice (some ⟨b6, 2, none⟩) 16 16 from rfl)
      refine s_move hE rfl rfl ?_; clear hE a; intro a hE
      refine q_nil (q_nx ?_)
      refine o_fl rfl ?_
      refine q_nil (q_nx ?_)
      refine o_weak (fun b => b ∈ [tb]) (fun _ _ => trivial) ?_
      refine o_or rfl ?_ ?_
      · replace hM : Mem _ _ w30 [_, _, _, _, _] := hM.pick [1, 0, 2, 3, 4] rfl
        refine s_call hE rfl Try.call41 (tapBytes_l tb bb bl39_15 tn39_15 16 _ (hM.get 0 rfl)) rfl ?_
        rintro e w31 ⟨v45_16, c45_16, bx45_16, bl45_16, tn45_16, hvt45_16, hbx45_16, hbl45_16, rfl, hN⟩
        refine ⟨_, rfl, hN.sta, ?_⟩; clear hE a; intro a hE
        replace hM : Mem _ _ w31 [_, _, _, _, _, _] := hM.call1 hN (fun f hf x hx => (List.mem_cons.1 hf).elim (fun h => by subst h; exact .inl (hvt45_16 x (by first | exact hx | (rw [hbx45_16] at hx; exact hx)))) (fun h => by rw [List.mem_singleton.1 h] at hx; exact .inl hx)); clear hN
        refine q_nil (q_nx ?_)
        refine o_cut (fun _ => True) ?_
        refine o_re ?_
        refine o_fl rfl ?_
        refine q_nil (q_nx ?_)
        refine o_fl rfl ?_
        refine q_nil (q_nx ?_)
        refine o_weak (fun b => b = b6) (fun _ _ => trivial) ?_
        refine o_or rfl ?_ ?_
        · replace hM : Mem _ _ w31 [_, _, _, _, _, _] := hM.pick [2, 0, 1, 3, 4, 5] rfl
          refine s_copySegG 2 (old := List.replicate 16 (0 : UInt8)) (src := bx45_16) hE rfl rfl hM (hM.get 1 rfl) sl55 rfl List.length_replicate rfl (by intro X h; cases h; rfl) rfl ?_; clear hE a; intro a w33 hE hM'; clear hM; have hM := hM'; clear hM'
          simp only [List.set_cons_zero, List.set_cons_succ] at hM
          refine q_nil (q_nx ?_)
          refine o_cut (fun _ => True) ?_
          refine o_re ?_
          refine o_weak (fun _ => False) (fun _ _ => trivial) ?_
          refine o_leaf rfl rfl ?_
          refine q_nil (q_ph (q_nil ?_))
          replace hE : Env a 56 [(0, _), (2, _), (3, _), (4, _), (5, _), (6, _), (17, _), (18, _), (32, _), (33, _)] := hE.sel [0, 2, 3, 4, 5, 6, 17, 18, 32, 33] rfl
          refine hK30 _ _ ?_
          refine wp_seq_k (fun K31 hK31 => ?_)
          refine wp_plain [true, false, true, false] rfl rfl ?_
          refine s_move hE rfl rfl ?_; clear hE a; intro a hE
          replace hM : Mem _ _ w33 [_, _, _, _, _, _] := hM.pick [2, 0, 1, 3, 4, 5] rfl
          refine s_call hE rfl Try.call43 (hwrapped_l tb bb bl45_16 tn45_16 _ (hM.get 0 rfl) (by omega)) rfl ?_
          rintro e w34 ⟨d48_17, t48_17, bl48_17, tn48_17, hd48_17, ht48_17, hbl48_17, rfl, hN⟩
          refine ⟨_, rfl, trivial, ?_⟩; clear hE a; intro a hE
          replace hM : Mem _ _ w34 [_, _, _, _, _, _] := hM.call1 hN (fun f hf x hx => by rw [List.mem_singleton.1 hf] at hx; exact .inl hx); clear hN
          refine s_fieldAddr hE rfl fo36_3 rfl ?_; clear hE a; intro a hE
          have hsl432_0 : d48_17.length = 32 := hd48_17
          have hsl432_1 : t48_17.length = 32 := ht48_17
          replace hM : Mem _ _ w34 [_, _, _, _, _, _] := hM.pick [1, 0, 2, 3, 4, 5] rfl
          refine s_storeSegs 3 2 (vss := [bv d48_17, bv t48_17]) hE rfl rfl hM rfl sz29 (by simp only [List.take_succ_cons, List.take_zero, List.drop_zero, List.drop_succ_cons]; simp only [List.map_cons, List.map_nil, bv_length, List.length_cons, List.length_nil, List.length_replicate, hsl432_0, hsl432_1]) (by decide) rfl (one_fl ⟨bv_one _, bv_one _, trivial⟩) rfl (by intro X h; cases h) ?_; intro w35 hM'; clear hM; have hM := hM'; clear hM'
          try simp only [List.take_zero, List.take_succ_cons, List.drop_zero, List.drop_succ_cons, List.take_nil, List.drop_nil, List.nil_append, List.append_nil, List.cons_append] at hM
          refine q_nil ?_
          replace hE : Env a 56 [(0, _), (2, _), (3, _), (4, _), (5, _), (6, _), (17, _), (18, _), (32, _), (33, _)] := hE.sel [0, 2, 3, 4, 5, 6, 17, 18, 32, 33] rfl
          refine hK31 _ _ ?_
          refine wp_plain [true, true, true, true, false] rfl rfl ?_
          refine s_move hE rfl rfl ?_; clear hE a; intro a hE
          refine s_loadN hE rfl (hM.get 0 rfl) row36 rfl (by intro X h; cases h) rfl ?_; clear hE a; intro a hE
          replace hE := hE.cast 51 rfl (show _ = Value.agg ([[.bool (decide (((m36_14 : Nat) : Int) = 1))], [.int .i64 ((m39_15 : Nat) : Int)], bv (bx45_16.take 16 ++ (List.replicate 16 (0 : UInt8)).drop bx45_16.length), bv d48_17, bv t48_17] : List (List Value)).flatten.toArray from (by first | rfl | simp only [List.flatten_cons, List.flatten_nil, List.append_nil, List.append_assoc]))
          refine s_fieldAddr hE rfl fo39_2 rfl ?_; clear hE a; intro a hE
          refine s_indexArr (j := 1) hE rfl rfl arr37 rfl (by decide) rfl ?_; clear hE a; intro a hE
          have hsl446_2 : (bx45_16.take 16 ++ (List.replicate 16 (0 : UInt8)).drop bx45_16.length).length = 16 := (cpyG_len List.length_replicate)
          have hsl446_3 : d48_17.length = 32 := hd48_17
          have hsl446_4 : t48_17.length = 32 := ht48_17
          replace hM : Mem _ _ w35 [_, _, _, _, _, _] := hM.pick [3, 0, 1, 2, 4, 5] rfl
          refine s_storeSegs 15 5 (vss := [[.bool (decide (((m36_14 : Nat) : Int) = 1))], [.int .i64 ((m39_15 : Nat) : Int)], bv (bx45_16.take 16 ++ (List.replicate 16 (0 : UInt8)).drop bx45_16.length), bv d48_17, bv t48_17]) hE rfl rfl hM rfl sz36 (by simp only [List.take_succ_cons, List.take_zero, List.drop_zero, List.drop_succ_cons]; simp only [List.map_cons, List.map_nil, bv_length, List.length_cons, List.length_nil, List.length_replicate, hsl446_2, hsl446_3, hsl446_4]) (by decide) rfl (one_fl ⟨one1 rfl, one1 rfl, bv_one _, bv_one _, bv_one _, trivial⟩) rfl (by intro X h; cases h) ?_; intro w36 hM'; clear hM; have hM := hM'; clear hM'
          try simp only [List.take_zero, List.take_succ_cons, List.drop_zero, List.drop_succ_cons, List.take_nil, List.drop_nil, List.nil_append, List.append_nil, List.cons_append] at hM
          refine q_nil ?_
          replace hE : Env a 56 [(0, _), (2, _), (3, _), (4, _), (5, _), (6, _), (17, _), (18, _), (32, _), (33, _)] := hE.sel [0, 2, 3, 4, 5, 6, 17, 18, 32, 33] rfl
          refine q_block_n ?_
          refine hK27 _ _ ?_
          refine wp_plain [true, true] rfl rfl ?_
          refine s_bin hE rfl rfl (show Bin _ _ _ _ _ (.int .i64 2) from bin_add (by rw [wrap_i64 (by omega) (by omega)]; omega)) rfl ?_; clear hE a; intro a hE
          refine s_move hE rfl rfl ?_; clear hE a; intro a hE
          refine q_nil ?_
          replace hE : Env a 56 [(0, _), (2, _), (3, _), (4, _), (5, _), (6, _), (17, _), (18, _), (32, _), (33, _)] := hE.sel [0, 2, 3, 4, 5, 6, 17, 18, 32, 33] rfl
          replace hM : Mem _ _ w36 [_, _, _, _, _] := hM.pick [0, 1, 2, 4, 5] rfl
          refine q_then_n (c_rounds ?_)
          refine wp_seq_k (fun K32 hK32 => ?_)
          refine wp_plain [true] rfl rfl ?_
          refine s_bin hE rfl rfl bin_lss rfl ?_; clear hE a; intro a hE
          replace hE := hE.cast 33 rfl (show _ = Value.bool true from (congrArg Value.bool (by decide)))
          refine q_nil ?_
          refine hK32 _ _ ?_
          refine wp_seq_k (fun K33 hK33 => ?_)
          refine wp_cond_true (hE.eval rfl) ?_
          refine wp_skip ?_
          refine hK33 _ _ ?_
          refine wp_seq_k (fun K34 hK34 => ?_)
          refine wp_block ?_
          refine wp_seq_k (fun K35 hK35 => ?_)
          refine wp_plain [true, true] rfl rfl ?_
          refine s_move hE rfl rfl ?_; clear hE a; intro a hE
          refine s_assign hE rfl rfl ?_; clear hE a; intro a hE
          refine q_nil ?_
          replace hE : Env a 56 [(0, _), (2, _), (3, _), (4, _), (5, _), (6, _), (17, _), (18, _), (32, _), (33, _)] := hE.sel [0, 2, 3, 4, 5, 6, 17, 18, 32, 33] rfl
          refine hK35 _ _ ?_
          refine wp_seq_k (fun K36 hK36 => ?_)
          refine wp_plain [true, false, true, true, false, true, true, false, false] rfl rfl ?_
          refine s_move hE rfl rfl ?_; clear hE a; intro a hE
          replace hM : Mem _ _ w36 [_, _, _, _, _] := hM.pick [2, 0, 1, 3, 4] rfl
          refine s_call hE rfl Try.call42 (tapNum_l tb bb bl48_17 tn48_17 1 256 _ (hM.get 0 rfl) (by decide)) rfl ?_
          rintro e w37 ⟨m36_18, bl36_18, tn36_18, hmm36_18, hbl36_18, rfl, hN⟩
          refine ⟨_, rfl, trivial, ?_⟩; clear hE a; intro a hE
          replace hM : Mem _ _ w37 [_, _, _, _, _] := hM.call1 hN (fun f hf x hx => by rw [List.mem_singleton.1 hf] at hx; exact .inl hx); clear hN
          refine s_bin hE rfl rfl bin_eql rfl ?_; clear hE a; intro a hE
          refine s_move hE rfl rfl ?_; clear hE a; intro a hE
          refine s_call hE rfl Try.call42 (tapNum_l tb bb bl36_18 tn36_18 4 4294967296 _ (hM.get 0 rfl) (by decide)) rfl ?_
          rintro e w38 ⟨m39_19, bl39_19, tn39_19, hmm39_19, hbl39_19, rfl, hN⟩
          refine ⟨_, rfl, trivial, ?_⟩; clear hE a; intro a hE
          replace hM : Mem _ _ w38 [_, _, _, _, _] := hM.call1 hN (fun f hf x hx => by rw [List.mem_singleton.1 hf] at hx; exact .inl hx); clear hN
          refine s_conv hE rfl (cnv_int Try.underlying24 Try.underlying3 (wrap_i64 (by omega) (by omega))) rfl ?_; clear hE a; intro a hE
          refine s_buildS [[.bool (decide (((m36_18 : Nat) : Int) = 1))], [.int .i64 ((m39_19 : Nat) : Int)]] hE rfl zero36 (by kernel_rfl) fpl36 (by first | (simp [PartsOk, Value.cells]; done) | (simp [PartsOk, Value.cells]; omega)) rfl ?_; clear hE a; intro a hE
          replace hE := hE.cast 41 rfl (show _ = Value.agg ([[.bool (decide (((m36_18 : Nat) : Int) = 1))], [.int .i64 ((m39_19 : Nat) : Int)], bv (List.replicate 16 (0 : UInt8)), bv (List.replicate 32 (0 : UInt8)), bv (List.replicate 32 (0 : UInt8))] : List (List Value)).flatten.toArray from (by first | rfl | simp [setAll] | (simp only [setAll, List.set_cons_zero, List.set_cons_succ, List.flatten_cons, List.flatten_nil, List.append_nil, List.append_assoc, List.replicate_succ, List.replicate_zero])))
          refine s_alloc [1, 1, 16, 32, 32] hE hM zeroL36 rfl rfl ?_; clear hE a; intro a b6 w39 hE hM'
          clear hM; have hM := hM'; clear hM'
          have hsl501_2 : (List.replicate 16 (0 : UInt8)).length = 16 := List.length_replicate
          have hsl501_3 : (List.replicate 32 (0 : UInt8)).length = 32 := List.length_replicate
          have hsl501_4 : (List.replicate 32 (0 : UInt8)).length = 32 := List.length_replicate
          replace hM : Mem _ _ w39 [_, _, _, _, _] := hM.pick [0, 1, 2, 4, 5] rfl
          refine s_storeSegs 0 5 (vss := [[.bool (decide (((m36_18 : Nat) : Int) = 1))], [.int .i64 ((m39_19 : Nat) : Int)], bv (List.replicate 16 (0 : UInt8)), bv (List.replicate 32 (0 : UInt8)), bv (List.replicate 32 (0 : UInt8))]) hE rfl rfl hM rfl sz36 (by simp only [List.take_succ_cons, List.take_zero, List.drop_zero, List.drop_succ_cons]; simp only [List.map_cons, List.map_nil, bv_length, List.length_cons, List.length_nil, List.length_replicate, hsl501_2, hsl501_3, hsl501_4]) (by decide) rfl (one_fl ⟨one1 rfl, one1 rfl, bv_one _, bv_one _, bv_one _, trivial⟩) rfl (by intro X h; cases h) ?_; intro w40 hM'; clear hM; have hM := hM'; clear hM'
          try simp only [List.take_zero, List.take_succ_cons, List.drop_zero, List.drop_succ_cons, List.take_nil, List.drop_nil, List.nil_append, List.append_nil, List.cons_append] at hM
          refine q_nil ?_
          replace hE : Env a 56 [(0, _), (2, _), (3, _), (4, _), (5, _), (6, _), (17, _), (18, _), (32, _), (33, _)] := hE.sel [0, 2, 3, 4, 5, 6, 17, 18, 32, 33] rfl
          refine hK36 _ _ ?_
          refine wp_seq_k (fun K37 hK37 => ?_)
          refine wp_treeM hM (by kernel_rfl) (fun _ => True) (fun _ => True) (.re [(0, true), (1, true), (2, true), (3, false), (4, false)] (.fl 3 (.fl 0 (.weak (.or 3 (.cut (.re [(4, false)] (.fl 0 (.fl 0 (.weak (.or 4 (.cut (.re [] (.weak (.leaf 0)))) (.stop))))))) (.stop)))))) [(0, true), (1, true), (2, true), (3, false), (4, false)] [(0, [(1, 0), (4, 1)]), (1, [(4, 1)]), (3, [(4, 3)]), (4, [])] (by kernel_rfl) ?_
          intro w41 hM' hww41; clear hM; have hM := hM'; clear hM'
          refine o_re ?_
          refine o_fl rfl ?_
          refine s_fieldAddr hE rfl fo36_2 rfl ?_; clear hE a; intro a hE
          refine s_sliceArr (l := 0) (h := 16) (mx' := 16) hE rfl arr34 rfl rfl rfl (by simp) (by omega) (by omega) (by omega) rfl ?_; clear hE a; intro a hE
          replace hE := hE.cast 43 rfl (show _ = Value.slice (some ⟨b6, 2, none⟩) 16 16 from rfl)
          refine s_move hE rfl rfl ?_; clear hE a; intro a hE
          refine q_nil (q_nx ?_)
          refine o_fl rfl ?_
          refine q_nil (q_nx ?_)
          refine o_weak (fun b => b ∈ [tb]) (fun _ _ => trivial) ?_
          refine o_or rfl ?_ ?_
          · replace hM : Mem _ _ w41 [_, _, _, _, _] := hM.pick [1, 0, 2, 3, 4] rfl
            refine s_call hE rfl Try.call41 (tapBytes_l tb bb bl39_19 tn39_19 16 _ (hM.get 0 rfl)) rfl ?_
            rintro e w42 ⟨v45_20, c45_20, bx45_20, bl45_20, tn45_20, hvt45_20, hbx45_20, hbl45_20, rfl, hN⟩
            refine ⟨_, rfl, hN.sta, ?_⟩; clear hE a; intro a hE
            replace hM : Mem _ _ w42 [_, _, _, _, _, _] := hM.call1 hN (fun f hf x hx => (List.mem_cons.1 hf).elim (fun h => by subst h; exact .inl (hvt45_20 x (by first | exact hx | (rw [hbx45_20] at hx; exact hx)))) (fun h => by rw [List.mem_singleton.1 h] at hx; exact .inl hx)); clear hN
            refine q_nil (q_nx ?_)
            refine o_cut (fun _ => True) ?_
            refine o_re ?_
            refine o_fl rfl ?_
            refine q_nil (q_nx ?_)
            refine o_fl rfl ?_
            refine q_nil (q_nx ?_)
            refine o_weak (fun b => b = b6) (fun _ _ => trivial) ?_
            refine o_or rfl ?_ ?_
            · replace hM : Mem _ _ w42 [_, _, _, _, _, _] := hM.pick [2, 0, 1, 3, 4, 5] rfl
              refine s_copySegG 2 (old := List.replicate 16 (0 : UInt8)) (src := bx45_20) hE rfl rfl hM (hM.get 1 rfl) sl55 rfl List.length_replicate rfl (by intro X h; cases h; rfl) rfl ?_; clear hE a; intro a w44 hE hM'; clear hM; have hM := hM'; clear hM'
              simp only [List.set_cons_zero, List.set_cons_succ] at hM
              refine q_nil (q_nx ?_)
              refine o_cut (fun _ => True) ?_
              refine o_re ?_
              refine o_weak (fun _ => False) (fun _ _ => trivial) ?_
              refine o_leaf rfl rfl ?_
              refine q_nil (q_ph (q_nil ?_))
              replace hE : Env a 56 [(0, _), (2, _), (3, _), (4, _), (5, _), (6, _), (17, _), (18, _), (32, _), (33, _)] := hE.sel [0, 2, 3, 4, 5, 6, 17, 18, 32, 33] rfl
              refine hK37 _ _ ?_
              refine wp_seq_k (fun K38 hK38 => ?_)
              refine wp_plain [true, false, true, false] rfl rfl ?_
              refine s_move hE rfl rfl ?_; clear hE a; intro a hE
              replace hM : Mem _ _ w44 [_, _, _, _, _, _] := hM.pick [2, 0, 1, 3, 4, 5] rfl
              refine s_call hE rfl Try.call43 (hwrapped_l tb bb bl45_20 tn45_20 _ (hM.get 0 rfl) (by omega)) rfl ?_
              rintro e w45 ⟨d48_21, t48_21, bl48_21, tn48_21, hd48_21, ht48_21, hbl48_21, rfl, hN⟩
              refine ⟨_, rfl, trivial, ?_⟩; clear hE a; intro a hE
              replace hM : Mem _ _ w45 [_, _, _, _, _, _] := hM.call1 hN (fun f hf x hx => by rw [List.mem_singleton.1 hf] at hx; exact .inl hx); clear hN
              refine s_fieldAddr hE rfl fo36_3 rfl ?_; clear hE a; intro a hE
              have hsl558_0 : d48_21.length = 32 := hd48_21
              have hsl558_1 : t48_21.length = 32 := ht48_21
              replace hM : Mem _ _ w45 [_, _, _, _, _, _] := hM.pick [1, 0, 2, 3, 4, 5] rfl
              refine s_storeSegs 3 2 (vss := [bv d48_21, bv t48_21]) hE rfl rfl hM rfl sz29 (by simp only [List.take_succ_cons, List.take_zero, List.drop_zero, List.drop_succ_cons]; simp only [List.map_cons, List.map_nil, bv_length, List.length_cons, List.length_nil, List.length_replicate, hsl558_0, hsl558_1]) (by decide) rfl (one_fl ⟨bv_one _, bv_one _, trivial⟩) rfl (by intro X h; cases h) ?_; intro w46 hM'; clear hM; have hM := hM'; clear hM'
              try simp only [List.take_zero, List.take_succ_cons, List.drop_zero, List.drop_succ_cons, List.take_nil, List.drop_nil, List.nil_append, List.append_nil, List.cons_append] at hM
              refine q_nil ?_
              replace hE : Env a 56 [(0, _), (2, _), (3, _), (4, _), (5, _), (6, _), (17, _), (18, _), (32, _), (33, _)] := hE.sel [0, 2, 3, 4, 5, 6, 17, 18, 32, 33] rfl
              refine hK38 _ _ ?_
              refine wp_plain [true, true, true, true, false] rfl rfl ?_
              refine s_move hE rfl rfl ?_; clear hE a; intro a hE
              refine s_loadN hE rfl (hM.get 0 rfl) row36 rfl (by intro X h; cases h) rfl ?_; clear hE a; intro a hE
              replace hE := hE.cast 51 rfl (show _ = Value.agg ([[.bool (decide (((m36_18 : Nat) : Int) = 1))], [.int .i64 ((m39_19 : Nat) : Int)], bv (bx45_20.take 16 ++ (List.replicate 16 (0 : UInt8)).drop bx45_20.length), bv d48_21, bv t48_21] : List (List Value)).flatten.toArray from (by first | rfl | simp only [List.flatten_cons, List.flatten_nil, List.append_nil, List.append_assoc]))
              refine s_fieldAddr hE rfl fo39_2 rfl ?_; clear hE a; intro a hE
              refine s_indexArr (j := 2) hE rfl rfl arr37 rfl (by decide) rfl ?_; clear hE a; intro a hE
              have hsl572_2 : (bx45_20.take 16 ++ (List.replicate 16 (0 : UInt8)).drop bx45_20.length).length = 16 := (cpyG_len List.length_replicate)
              have hsl572_3 : d48_21.length = 32 := hd48_21
              have hsl572_4 : t48_21.length = 32 := ht48_21
              replace hM : Mem _ _ w46 [_, _, _, _, _, _] := hM.pick [3, 0, 1, 2, 4, 5] rfl
              refine s_storeSegs 20 5 (vss := [[.bool (decide (((m36_18 : Nat) : Int) = 1))], [.int .i64 ((m39_19 : Nat) : Int)], bv (bx45_20.take 16 ++ (List.replicate 16 (0 : UInt8)).drop bx45_20.length), bv d48_21, bv t48_21]) hE rfl rfl hM rfl sz36 (by simp only [List.take_succ_cons, List.take_zero, List.drop_zero, List.drop_succ_cons]; simp only [List.map_cons, List.map_nil, bv_length, List.length_cons, List.length_nil, List.length_replicate, hsl572_2, hsl572_3, hsl572_4]) (by decide) rfl (one_fl ⟨one1 rfl, one1 rfl, bv_one _, bv_one _, bv_one _, trivial⟩) rfl (by intro X h; cases h) ?_; intro w47 hM'; clear hM; have hM := hM'; clear hM'
              try simp only [List.take_zero, List.take_succ_cons, List.drop_zero, List.drop_succ_cons, List.take_nil, List.drop_nil, List.nil_append, List.append_nil, List.cons_append] at hM
              refine q_nil ?_
              replace hE : Env a 56 [(0, _), (2, _), (3, _), (4, _), (5, _), (6, _), (17, _), (18, _), (32, _), (33, _)] := hE.sel [0, 2, 3, 4, 5, 6, 17, 18, 32, 33] rfl
              refine q_block_n ?_
              refine hK34 _ _ ?_
              refine wp_plain [true, true] rfl rfl ?_
              refine s_bin hE rfl rfl (show Bin _ _ _ _ _ (.int .i64 3) from bin_add (by rw [wrap_i64 (by omega) (by omega)]; omega)) rfl ?_; clear hE a; intro a hE
              refine s_move hE rfl rfl ?_; clear hE a; intro a hE
              refine q_nil ?_
              replace hE : Env a 56 [(0, _), (2, _), (3, _), (4, _), (5, _), (6, _), (17, _), (18, _), (32, _), (33, _)] := hE.sel [0, 2, 3, 4, 5, 6, 17, 18, 32, 33] rfl
              replace hM : Mem _ _ w47 [_, _, _, _, _] := hM.pick [0, 1, 2, 4, 5] rfl
              refine q_then_n (c_rounds ?_)
              refine wp_seq_k (fun K39 hK39 => ?_)
              refine wp_plain [true] rfl rfl ?_
              refine s_bin hE rfl rfl bin_lss rfl ?_; clear hE a; intro a hE
              replace hE := hE.cast 33 rfl (show _ = Value.bool true from (congrArg Value.bool (by decide)))
              refine q_nil ?_
              refine hK39 _ _ ?_
              refine wp_seq_k (fun K40 hK40 => ?_)
              refine wp_cond_true (hE.eval rfl) ?_
              refine wp_skip ?_
              refine hK40 _ _ ?_
              refine wp_seq_k (fun K41 hK41 => ?_)
              refine wp_block ?_
              refine wp_seq_k (fun K42 hK42 => ?_)
              refine wp_plain [true, true] rfl rfl ?_
              refine s_move hE rfl rfl ?_; clear hE a; intro a hE
              refine s_assign hE rfl rfl ?_; clear hE a; intro a hE
              refine q_nil ?_
              replace hE : Env a 56 [(0, _), (2, _), (3, _), (4, _), (5, _), (6, _), (17, _), (18, _), (32, _), (33, _)] := hE.sel [0, 2, 3, 4, 5, 6, 17, 18, 32, 33] rfl
              refine hK42 _ _ ?_
              refine wp_seq_k (fun K43 hK43 => ?_)
              refine wp_plain [true, false, true, true, false, true, true, false, false] rfl rfl ?_
              refine s_move hE rfl rfl ?_; clear hE a; intro a hE
              replace hM : Mem _ _ w47 [_, _, _, _, _] := hM.pick [2, 0, 1, 3, 4] rfl
              refine s_call hE rfl Try.call42 (tapNum_l tb bb bl48_21 tn48_21 1 256 _ (hM.get 0 rfl) (by decide)) rfl ?_
              rintro e w48 ⟨m36_22, bl36_22, tn36_22, hmm36_22, hbl36_22, rfl, hN⟩
              refine ⟨_, rfl, trivial, ?_⟩; clear hE a; intro a hE
              replace hM : Mem _ _ w48 [_, _, _, _, _] := hM.call1 hN (fun f hf x hx => by rw [List.mem_singleton.1 hf] at hx; exact .inl hx); clear hN
              refine s_bin hE rfl rfl bin_eql rfl ?_; clear hE a; intro a hE
              refine s_move hE rfl rfl ?_; clear hE a; intro a hE
              refine s_call hE rfl Try.call42 (tapNum_l tb bb bl36_22 tn36_22 4 4294967296 _ (hM.get 0 rfl) (by decide)) rfl ?_
              rintro e w49 ⟨m39_23, bl39_23, tn39_23, hmm39_23, hbl39_23, rfl, hN⟩
              refine ⟨_, rfl, trivial, ?_⟩; clear hE a; intro a hE
              replace hM : Mem _ _ w49 [_, _, _, _, _] := hM.call1 hN (fun f hf x hx => by rw [List.mem_singleton.1 hf] at hx; exact .inl hx); clear hN
              refine s_conv hE rfl (cnv_int Try.underlying24 Try.underlying3 (wrap_i64 (by omega) (by omega))) rfl ?_; clear hE a; intro a hE
              refine s_buildS [[.bool (decide (((m36_22 : Nat) : Int) = 1))], [.int .i64 ((m39_23 : Nat) : Int)]] hE rfl zero36 (by kernel_rfl) fpl36 (by first | (simp [PartsOk, Value.cells]; done) | (simp [PartsOk, Value.cells]; omega)) rfl ?_; clear hE a; intro a hE
              replace hE := hE.cast 41 rfl (show _ = Value.agg ([[.bool (decide (((m36_22 : Nat) : Int) = 1))], [.int .i64 ((m39_23 : Nat) : Int)], bv (List.replicate 16 (0 : UInt8)), bv (List.replicate 32 (0 : UInt8)), bv (List.replicate 32 (0 : UInt8))] : List (List Value)).flatten.toArray from (by first | rfl | simp [setAll] | (simp only [setAll, List.set_cons_zero, List.set_cons_succ, List.flatten_cons, List.flatten_nil, List.append_nil, List.append_assoc, List.replicate_succ, List.replicate_zero])))
              refine s_alloc [1, 1, 16, 32, 32] hE hM zeroL36 rfl rfl ?_; clear hE a; intro a b6 w50 hE hM'
              clear hM; have hM := hM'; clear hM'
              have hsl627_2 : (List.replicate 16 (0 : UInt8)).length = 16 := List.length_replicate
              have hsl627_3 : (List.replicate 32 (0 : UInt8)).length = 32 := List.length_replicate
              have hsl627_4 : (List.replicate 32 (0 : UInt8)).length = 32 := List.length_replicate
              replace hM : Mem _ _ w50 [_, _, _, _, _] := hM.pick [0, 1, 2, 4, 5] rfl
              refine s_storeSegs 0 5 (vss := [[.bool (decide (((m36_22 : Nat) : Int) = 1))], [.int .i64 ((m39_23 : Nat) : Int)], bv (List.replicate 16 (0 : UInt8)), bv (List.replicate 32 (0 : UInt8)), bv (List.replicate 32 (0 : UInt8))]) hE rfl rfl hM rfl sz36 (by simp only [List.take_succ_cons, List.take_zero, List.drop_zero, List.drop_succ_cons]; simp only [List.map_cons, List.map_nil, bv_length, List.length_cons, List.length_nil, List.length_replicate, hsl627_2, hsl627_3, hsl627_4]) (by decide) rfl (one_fl ⟨one1 rfl, one1 rfl, bv_one _, bv_one _, bv_one _, trivial⟩) rfl (by intro X h; cases h) ?_; intro w51 hM'; clear hM; have hM := hM'; clear hM'
              try simp only [List.take_zero, List.take_succ_cons, List.drop_zero, List.drop_succ_cons, List.take_nil, List.drop_nil, List.nil_append, List.append_nil, List.cons_append] at hM
              refine q_nil ?_
              replace hE : Env a 56 [(0, _), (2, _), (3, _), (4, _), (5, _), (6, _), (17, _), (18, _), (32, _), (33, _)] := hE.sel [0, 2, 3, 4, 5, 6, 17, 18, 32, 33] rfl
              refine hK43 _ _ ?_
              refine wp_seq_k (fun K44 hK44 => ?_)
              refine wp_treeM hM (by kernel_rfl) (fun _ => True) (fun _ => True) (.re [(0, true), (1, true), (2, true), (3, false), (4, false)] (.fl 3 (.fl 0 (.weak (.or 3 (.cut (.re [(4, false)] (.fl 0 (.fl 0 (.weak (.or 4 (.cut (.re [] (.weak (.leaf 0)))) (.stop))))))) (.stop)))))) [(0, true), (1, true), (2, true), (3, false), (4, false)] [(0, [(1, 0), (4, 1)]), (1, [(4, 1)]), (3, [(4, 3)]), (4, [])] (by kernel_rfl) ?_
              intro w52 hM' hww52; clear hM; have hM := hM'; clear hM'
              refine o_re ?_
              refine o_fl rfl ?_
              refine s_fieldAddr hE rfl fo36_2 rfl ?_; clear hE a; intro a hE
              refine s_sliceArr (l := 0) (h := 16) (mx' := 16) hE rfl arr34 rfl rfl rfl (by simp) (by omega) (by omega) (by omega) rfl ?_; clear hE a; intro a hE
              replace hE := hE.cast 43 rfl (show _ = Value.slice (some ⟨b6, 2, none⟩) 16 16 from rfl)
              refine s_move hE rfl rfl ?_; clear hE a; intro a hE
              refine q_nil (q_nx ?_)
              refine o_fl rfl ?_
              refine q_nil (q_nx ?_)
              refine o_weak (fun b => b ∈ [tb]) (fun _ _ => trivial) ?_
              refine o_or rfl ?_ ?_
              · replace hM : Mem _ _ w52 [_, _, _, _, _] := hM.pick [1, 0, 2, 3, 4] rfl
                refine s_call hE rfl Try.call41 (tapBytes_l tb bb bl39_23 tn39_23 16 _ (hM.get 0 rfl)) rfl ?_
                rintro e w53 ⟨v45_24, c45_24, bx45_24, bl45_24, tn45_24, hvt45_24, hbx45_24, hbl45_24, rfl, hN⟩
                refine ⟨_, rfl, hN.sta, ?_⟩; clear hE a; intro a hE
                replace hM : Mem _ _ w53 [_, _, _, _, _, _] := hM.call1 hN (fun f hf x hx => (List.mem_cons.1 hf).elim (fun h => by subst h; exact .inl (hvt45_24 x (by first | exact hx | (rw [hbx45_24] at hx; exact hx)))) (fun h => by rw [List.mem_singleton.1 h] at hx; exact .inl hx)); clear hN
                refine q_nil (q_nx ?_)
                refine o_cut (fun _ => True) ?_
                refine o_re ?_
                refine o_fl rfl ?_
                refine q_nil (q_nx ?_)
                refine o_fl rfl ?_
                refine q_nil (q_nx ?_)
                refine o_weak (fun b => b = b6) (fun _ _ => trivial) ?_
                refine o_or rfl ?_ ?_
                · replace hM : Mem _ _ w53 [_, _, _, _, _, _] := hM.pick [2, 0, 1, 3, 4, 5] rfl
                  refine s_copySegG 2 (old := List.replicate 16 (0 : UInt8)) (src := bx45_24) hE rfl rfl hM (hM.get 1 rfl) sl55 rfl List.length_replicate rfl (by intro X h; cases h; rfl) rfl ?_; clear hE a; intro a w55 hE hM'; clear hM; have hM := hM'; clear hM'
                  simp only [List.set_cons_zero, List.set_cons_succ] at hM
                  refine q_nil (q_nx ?_)
                  refine o_cut (fun _ => True) ?_
                  refine o_re ?_
                  refine o_weak (fun _ => False) (fun _ _ => trivial) ?_
                  refine o_leaf rfl rfl ?_
                  refine q_nil (q_ph (q_nil ?_))
                  replace hE : Env a 56 [(0, _), (2, _), (3, _), (4, _), (5, _), (6, _), (17, _), (18, _), (32, _), (33, _)] := hE.sel [0, 2, 3, 4, 5, 6, 17, 18, 32, 33] rfl
                  refine hK44 _ _ ?_
                  refine wp_seq_k (fun K45 hK45 => ?_)
                  refine wp_plain [true, false, true, false] rfl rfl ?_
                  refine s_move hE rfl rfl ?_; clear hE a; intro a hE
                  replace hM : Mem _ _ w55 [_, _, _, _, _, _] := hM.pick [2, 0, 1, 3, 4, 5] rfl
                  refine s_call hE rfl Try.call43 (hwrapped_l tb bb bl45_24 tn45_24 _ (hM.get 0 rfl) (by omega)) rfl ?_
                  rintro e w56 ⟨d48_25, t48_25, bl48_25, tn48_25, hd48_25, ht48_25, hbl48_25, rfl, hN⟩
                  refine ⟨_, rfl, trivial, ?_⟩; clear hE a; intro a hE
                  replace hM : Mem _ _ w56 [_, _, _, _, _, _] := hM.call1 hN (fun f hf x hx => by rw [List.mem_singleton.1 hf] at hx; exact .inl hx); clear hN
                  refine s_fieldAddr hE rfl fo36_3 rfl ?_; clear hE a; intro a hE
                  have hsl684_0 : d48_25.length = 32 := hd48_25
                  have hsl684_1 : t48_25.length = 32 := ht48_25
                  replace hM : Mem _ _ w56 [_, _, _, _, _, _] := hM.pick [1, 0, 2, 3, 4, 5] rfl
                  refine s_storeSegs 3 2 (vss := [bv d48_25, bv t48_25]) hE rfl rfl hM rfl sz29 (by simp only [List.take_succ_cons, List.take_zero, List.drop_zero, List.drop_succ_cons]; simp only [List.map_cons, List.map_nil, bv_length, List.length_cons, List.length_nil, List.length_replicate, hsl684_0, hsl684_1]) (by decide) rfl (one_fl ⟨bv_one _, bv_one _, trivial⟩) rfl (by intro X h; cases h) ?_; intro w57 hM'; clear hM; have hM := hM'; clear hM'
                  try simp only [List.take_zero, List.take_succ_cons, List.drop_zero, List.drop_succ_cons, List.take_nil, List.drop_nil, List.nil_append, List.append_nil, List.cons_append] at hM
                  refine q_nil ?_
                  replace hE : Env a 56 [(0, _), (2, _), (3, _), (4, _), (5, _), (6, _), (17, _), (18, _), (32, _), (33, _)] := hE.sel [0, 2, 3, 4, 5, 6, 17, 18, 32, 33] rfl
                  refine hK45 _ _ ?_
                  refine wp_plain [true, true, true, true, false] rfl rfl ?_
                  refine s_move hE rfl rfl ?_; clear hE a; intro a hE
                  refine s_loadN hE rfl (hM.get 0 rfl) row36 rfl (by intro X h; cases h) rfl ?_; clear hE a; intro a hE
                  replace hE := hE.cast 51 rfl (show _ = Value.agg ([[.bool (decide (((m36_22 : Nat) : Int) = 1))], [.int .i64 ((m39_23 : Nat) : Int)], bv (bx45_24.take 16 ++ (List.replicate 16 (0 : UInt8)).drop bx45_24.length), bv d48_25, bv t48_25] : List (List Value)).flatten.toArray from (by first | rfl | simp only [List.flatten_cons, List.flatten_nil, List.append_nil, List.append_assoc]))
                  refine s_fieldAddr hE rfl fo39_2 rfl ?_; clear hE a; intro a hE
                  refine s_indexArr (j := 3) hE rfl rfl arr37 rfl (by decide) rfl ?_; clear hE a; intro a hE
                  have hsl698_2 : (bx45_24.take 16 ++ (List.replicate 16 (0 : UInt8)).drop bx45_24.length).length = 16 := (cpyG_len List.length_replicate)
                  have hsl698_3 : d48_25.length = 32 := hd48_25
                  have hsl698_4 : t48_25.length = 32 := ht48_25
                  replace hM : Mem _ _ w57 [_, _, _, _, _, _] := hM.pick [3, 0, 1, 2, 4, 5] rfl
                  refine s_storeSegs 25 5 (vss := [[.bool (decide (((m36_22 : Nat) : Int) = 1))], [.int .i64 ((m39_23 : Nat) : Int)], bv (bx45_24.take 16 ++ (List.replicate 16 (0 : UInt8)).drop bx45_24.length), bv d48_25, bv t48_25]) hE rfl rfl hM rfl sz36 (by simp only [List.take_succ_cons, List.take_zero, List.drop_zero, List.drop_succ_cons]; simp only [List.map_cons, List.map_nil, bv_length, List.length_cons, List.length_nil, List.length_replicate, hsl698_2, hsl698_3, hsl698_4]) (by decide) rfl (one_fl ⟨one1 rfl, one1 rfl, bv_one _, bv_one _, bv_one _, trivial⟩) rfl (by intro X h; cases h) ?_; intro w58 hM'; clear hM; have hM := hM'; clear hM'
                  try simp only [List.take_zero, List.take_succ_cons, List.drop_zero, List.drop_succ_cons, List.take_nil, List.drop_nil, List.nil_append, List.append_nil, List.cons_append] at hM
                  refine q_nil ?_
                  replace hE : Env a 56 [(0, _), (2, _), (3, _), (4, _), (5, _), (6, _), (17, _), (18, _), (32, _), (33, _)] := hE.sel [0, 2, 3, 4, 5, 6, 17, 18, 32, 33] rfl
                  refine q_block_n ?_
                  refine hK41 _ _ ?_
                  refine wp_plain [true, true] rfl rfl ?_
                  refine s_bin hE rfl rfl (show Bin _ _ _ _ _ (.int .i64 4) from bin_add (by rw [wrap_i64 (by omega) (by omega)]; omega)) rfl ?_; clear hE a; intro a hE
                  refine s_move hE rfl rfl ?_; clear hE a; intro a hE
                  refine q_nil ?_
                  replace hE : Env a 56 [(0, _), (2, _), (3, _), (4, _), (5, _), (6, _), (17, _), (18, _), (32, _), (33, _)] := hE.sel [0, 2, 3, 4, 5, 6, 17, 18, 32, 33] rfl
                  replace hM : Mem _ _ w58 [_, _, _, _, _] := hM.pick [0, 1, 2, 4, 5] rfl
                  refine q_then_n (c_rounds ?_)
                  refine wp_seq_k (fun K46 hK46 => ?_)
                  refine wp_plain [true] rfl rfl ?_
                  refine s_bin hE rfl rfl bin_lss rfl ?_; clear hE a; intro a hE
                  replace hE := hE.cast 33 rfl (show _ = Value.bool false from (congrArg Value.bool (by decide)))
                  refine q_nil ?_
                  refine hK46 _ _ ?_
                  refine wp_seq_k (fun K47 hK47 => ?_)
                  refine wp_cond_false (hE.eval rfl) ?_
                  refine wp_exit ?_
                  refine q_then_e ?_
                  refine q_then_e ?_
                  refine q_block_x ?_
                  refine hK16 _ _ ?_
                  refine wp_seq_k (fun K48 hK48 => ?_)
                  refine wp_plain [true, false] rfl rfl ?_
                  refine s_loadN hE rfl (hM.get 0 rfl) row39 rfl (by intro X h; cases h) rfl ?_; clear hE a; intro a hE
                  replace hE := hE.cast 55 rfl (show _ = Value.agg ([[.int .i64 ((m10_2 : Nat) : Int)], [.int .i64 ((m13_3 : Nat) : Int)], [.bool (decide (((m22_4 : Nat) : Int) = 1))], [.int .u64 ((m25_5 : Nat) : Int)], bv d27_6, bv t27_6, [.bool (decide (((m22_7 : Nat) : Int) = 1))], [.int .u64 ((m25_8 : Nat) : Int)], bv d27_9, bv t27_9, [.bool (decide (((m36_10 : Nat) : Int) = 1))], [.int .i64 ((m39_11 : Nat) : Int)], bv (bx45_12.take 16 ++ (List.replicate 16 (0 : UInt8)).drop bx45_12.length), bv d48_13, bv t48_13, [.bool (decide (((m36_14 : Nat) : Int) = 1))], [.int .i64 ((m39_15 : Nat) : Int)], bv (bx45_16.take 16 ++ (List.replicate 16 (0 : UInt8)).drop bx45_16.length), bv d48_17, bv t48_17, [.bool (decide (((m36_18 : Nat) : Int) = 1))], [.int .i64 ((m39_19 : Nat) : Int)], bv (bx45_20.take 16 ++ (List.replicate 16 (0 : UInt8)).drop bx45_20.length), bv d48_21, bv t48_21, [.bool (decide (((m36_22 : Nat) : Int) = 1))], [.int .i64 ((m39_23 : Nat) : Int)], bv (bx45_24.take 16 ++ (List.replicate 16 (0 : UInt8)).drop bx45_24.length), bv d48_25, bv t48_25] : List (List Value)).flatten.toArray from (by first | rfl | simp only [List.flatten_cons, List.flatten_nil, List.append_nil, List.append_assoc]))
                  have hsl732_4 : d27_6.length = 32 := hd27_6
                  have hsl732_5 : t27_6.length = 32 := ht27_6
                  have hsl732_8 : d27_9.length = 32 := hd27_9
                  have hsl732_9 : t27_9.length = 32 := ht27_9
                  have hsl732_12 : (bx45_12.take 16 ++ (List.replicate 16 (0 : UInt8)).drop bx45_12.length).length = 16 := (cpyG_len List.length_replicate)
                  have hsl732_13 : d48_13.length = 32 := hd48_13
                  have hsl732_14 : t48_13.length = 32 := ht48_13
                  have hsl732_17 : (bx45_16.take 16 ++ (List.replicate 16 (0 : UInt8)).drop bx45_16.length).length = 16 := (cpyG_len List.length_replicate)
                  have hsl732_18 : d48_17.length = 32 := hd48_17
                  have hsl732_19 : t48_17.length = 32 := ht48_17
                  have hsl732_22 : (bx45_20.take 16 ++ (List.replicate 16 (0 : UInt8)).drop bx45_20.length).length = 16 := (cpyG_len List.length_replicate)
                  have hsl732_23 : d48_21.length = 32 := hd48_21
                  have hsl732_24 : t48_21.length = 32 := ht48_21
                  have hsl732_27 : (bx45_24.take 16 ++ (List.replicate 16 (0 : UInt8)).drop bx45_24.length).length = 16 := (cpyG_len List.length_replicate)
                  have hsl732_28 : d48_25.length = 32 := hd48_25
                  have hsl732_29 : t48_25.length = 32 := ht48_25
                  replace hM : Mem _ _ w58 [_, _, _, _, _] := hM.pick [4, 0, 1, 2, 3] rfl
                  refine s_storeSegs 0 30 (vss := [[.int .i64 ((m10_2 : Nat) : Int)], [.int .i64 ((m13_3 : Nat) : Int)], [.bool (decide (((m22_4 : Nat) : Int) = 1))], [.int .u64 ((m25_5 : Nat) : Int)], bv d27_6, bv t27_6, [.bool (decide (((m22_7 : Nat) : Int) = 1))], [.int .u64 ((m25_8 : Nat) : Int)], bv d27_9, bv t27_9, [.bool (decide (((m36_10 : Nat) : Int) = 1))], [.int .i64 ((m39_11 : Nat) : Int)], bv (bx45_12.take 16 ++ (List.replicate 16 (0 : UInt8)).drop bx45_12.length), bv d48_13, bv t48_13, [.bool (decide (((m36_14 : Nat) : Int) = 1))], [.int .i64 ((m39_15 : Nat) : Int)], bv (bx45_16.take 16 ++ (List.replicate 16 (0 : UInt8)).drop bx45_16.length), bv d48_17, bv t48_17, [.bool (decide (((m36_18 : Nat) : Int) = 1))], [.int .i64 ((m39_19 : Nat) : Int)], bv (bx45_20.take 16 ++ (List.replicate 16 (0 : UInt8)).drop bx45_20.length), bv d48_21, bv t48_21, [.bool (decide (((m36_22 : Nat) : Int) = 1))], [.int .i64 ((m39_23 : Nat) : Int)], bv (bx45_24.take 16 ++ (List.replicate 16 (0 : UInt8)).drop bx45_24.length), bv d48_25, bv t48_25]) hE rfl rfl hM rfl sz39 (by simp only [List.take_succ_cons, List.take_zero, List.drop_zero, List.drop_succ_cons]; simp only [List.map_cons, List.map_nil, bv_length, List.length_cons, List.length_nil, List.length_replicate, hsl732_4, hsl732_5, hsl732_8, hsl732_9, hsl732_12, hsl732_13, hsl732_14, hsl732_17, hsl732_18, hsl732_19, hsl732_22, hsl732_23, hsl732_24, hsl732_27, hsl732_28, hsl732_29]) (by decide) rfl (one_fl ⟨one1 rfl, one1 rfl, one1 rfl, one1 rfl, bv_one _, bv_one _, one1 rfl, one1 rfl, bv_one _, bv_one _, one1 rfl, one1 rfl, bv_one _, bv_one _, bv_one _, one1 rfl, one1 rfl, bv_one _, bv_one _, bv_one _, one1 rfl, one1 rfl, bv_one _, bv_one _, bv_one _, one1 rfl, one1 rfl, bv_one _, bv_one _, bv_one _, trivial⟩) rfl (by intro X h; cases h) ?_; intro w59 hM'; clear hM; have hM := hM'; clear hM'
                  try simp only [List.take_zero, List.take_succ_cons, List.drop_zero, List.drop_succ_cons, List.take_nil, List.drop_nil, List.nil_append, List.append_nil, List.cons_append] at hM
                  refine q_nil ?_
                  replace hE : Env a 56 [(0, _), (2, _), (3, _), (4, _), (5, _), (6, _), (17, _), (18, _), (32, _), (33, _)] := hE.sel [0, 2, 3, 4, 5, 6, 17, 18, 32, 33] rfl
                  refine hK48 _ _ ?_
                  refine wp_ret ?_
                  refine f_ret1 hE rfl (res_cellN rfl (hM.get 0 rfl) row39 rfl) ?_
                  replace hM : Mem _ _ w59 [_, _, _, _, _] := hM.pick [3, 0, 1, 2, 4] rfl
                  exact ⟨⟨((m10_2 : Nat) : Int), ((m13_3 : Nat) : Int), (decide (((m22_4 : Nat) : Int) = 1), m25_5, d27_6, t27_6), (decide (((m22_7 : Nat) : Int) = 1), m25_8, d27_9, t27_9), (decide (((m36_10 : Nat) : Int) = 1), ((m39_11 : Nat) : Int), bx45_12.take 16 ++ (List.replicate 16 (0 : UInt8)).drop bx45_12.length, d48_13, t48_13), (decide (((m36_14 : Nat) : Int) = 1), ((m39_15 : Nat) : Int), bx45_16.take 16 ++ (List.replicate 16 (0 : UInt8)).drop bx45_16.length, d48_17, t48_17), (decide (((m36_18 : Nat) : Int) = 1), ((m39_19 : Nat) : Int), bx45_20.take 16 ++ (List.replicate 16 (0 : UInt8)).drop bx45_20.length, d48_21, t48_21), (decide (((m36_22 : Nat) : Int) = 1), ((m39_23 : Nat) : Int), bx45_24.take 16 ++ (List.replicate 16 (0 : UInt8)).drop bx45_24.length, d48_25, t48_25)⟩, _, _, ⟨(by simp only [In64]; omega), (by simp only [In64]; omega), ⟨by simp only; omega, hd27_6, ht27_6⟩, ⟨by simp only; omega, hd27_9, ht27_9⟩, ⟨(by simp only [In64]; omega), (cpyG_len List.length_replicate), hd48_13, ht48_13⟩, ⟨(by simp only [In64]; omega), (cpyG_len List.length_replicate), hd48_17, ht48_17⟩, ⟨(by simp only [In64]; omega), (cpyG_len List.length_replicate), hd48_21, ht48_21⟩, ⟨(by simp only [In64]; omega), (cpyG_len List.length_replicate), hd48_25, ht48_25⟩⟩, by omega, by first | rfl | (simp; done), hM.pick [0] rfl⟩
                trivial
              trivial
            trivial
          trivial
        trivial
      trivial
    trivial
  trivial
end Go.Proofs.Ytamjaacddbecaaa
