/- Walks of functions of the given program that the claim reaches. -/
import Derived.Test.YtamjaacddbecaaaLj
set_option linter.unusedSimpArgs false
set_option linter.unusedVariables false
namespace Go.Proofs.Ytamjaacddbecaaa
open Go Go.Kx
theorem sz3 : (Try.prog.info? 3).map (·.size) = some 1 := by kernel_rfl
theorem sz24 : (Try.prog.info? 24).map (·.size) = some 1 := by kernel_rfl
set_option maxRecDepth 20000 in
set_option maxHeartbeats 4000000 in
theorem rhget_a (u : Value) (ls : List (List UInt8)) (lc : Nat) (w : World) (hr_ls : (rd u 64 ls.length lc (ls.flatMap bv)).holds w) (ho_ls : ∀ x, x ∈ ls → x.length = 64) (hhi : ls.length ≤ 100) : Calls Try.prog 15 #[u] w fun e w' => e = .returned (.tuple #[.agg ([[.int .i64 ((getHH ls).m)], [.int .i64 ((getHH ls).r)], [.bool ((getHH ls).v0.1)], [.int .u64 (((getHH ls).v0.2.1 : Nat) : Int)], bv ((getHH ls).v0.2.2.1), bv ((getHH ls).v0.2.2.2), [.bool ((getHH ls).v1.1)], [.int .u64 (((getHH ls).v1.2.1 : Nat) : Int)], bv ((getHH ls).v1.2.2.1), bv ((getHH ls).v1.2.2.2), [.bool ((getHH ls).s0.1)], [.int .i64 ((getHH ls).s0.2.1)], bv ((getHH ls).s0.2.2.1), bv ((getHH ls).s0.2.2.2.1), bv ((getHH ls).s0.2.2.2.2), [.bool ((getHH ls).s1.1)], [.int .i64 ((getHH ls).s1.2.1)], bv ((getHH ls).s1.2.2.1), bv ((getHH ls).s1.2.2.2.1), bv ((getHH ls).s1.2.2.2.2), [.bool ((getHH ls).s2.1)], [.int .i64 ((getHH ls).s2.2.1)], bv ((getHH ls).s2.2.2.1), bv ((getHH ls).s2.2.2.2.1), bv ((getHH ls).s2.2.2.2.2), [.bool ((getHH ls).s3.1)], [.int .i64 ((getHH ls).s3.2.1)], bv ((getHH ls).s3.2.2.1), bv ((getHH ls).s3.2.2.2.1), bv ((getHH ls).s3.2.2.2.2)] : List (List Value)).flatten.toArray, .int .i64 ((getEH ls : Nat) : Int)]) ∧ Mem w [] w' [] := by
  have hfl := flats_len ho_ls
  have hM : Mem w [] w [rd u 64 ls.length lc (ls.flatMap bv)] := Mem.startR w (fun g hg => by
    simp only [List.mem_cons, List.not_mem_nil, or_false] at hg
    rcases hg with rfl
    · exact ⟨hr_ls, rfl⟩)
  refine f_enter 152 Try.func15 rfl rfl rfl ?_
  intro a hE
  replace hE : Env a 152 [(0, _)] := hE
  refine wp_seq_k (fun K1 hK1 => ?_)
  refine wp_plain [false, true] rfl rfl ?_
  refine s_alloc [1, 1, 1, 1, 32, 32, 1, 1, 32, 32, 1, 1, 16, 32, 32, 1, 1, 16, 32, 32, 1, 1, 16, 32, 32, 1, 1, 16, 32, 32] hE hM zeroL39 rfl rfl ?_; clear hE a; intro a b2 w1 hE hM'
  clear hM; have hM := hM'; clear hM'
  refine s_assign hE rfl rfl ?_; clear hE a; intro a hE
  refine q_nil ?_
  refine hK1 _ _ ?_
  refine wp_seq_k (fun K2 hK2 => ?_)
  refine wp_seq_k (fun K3 hK3 => ?_)
  refine wp_plain [true, true, true] rfl rfl ?_
  refine s_move hE rfl rfl ?_; clear hE a; intro a hE
  refine s_len hE rfl Try.underlying40 (rd_slice (hM.get 1 rfl)) rfl ?_; clear hE a; intro a hE
  refine s_bin hE rfl rfl bin_neq rfl ?_; clear hE a; intro a hE
  refine q_nil ?_
  replace hE : Env a 152 [(0, _), (2, _), (3, _), (18, _)] := hE.sel [0, 2, 3, 18] rfl
  refine hK3 _ _ ?_
  refine hE.split 18 rfl (fun hb18 hE' => ?_) (fun hb18 hE' => ?_)
  · replace hE := hE'; clear hE'
    replace hb18 := of_decide_eq_false (not_true hb18)
    replace hb18 : ¬ (ls.length = 8) := by omega
    obtain ⟨e1, e2⟩ := getHL_bad (getOkH_len (l := ls) (by omega))
    refine wp_cond_true (hE.eval rfl) ?_
    refine wp_seq_k (fun K4 hK4 => ?_)
    refine wp_plain [true, false, true] rfl rfl ?_
    refine s_buildS [] hE rfl zero39 (by kernel_rfl) fpl39 (by first | (simp [PartsOk, Value.cells]; done) | (simp [PartsOk, Value.cells]; omega)) rfl ?_; clear hE a; intro a hE
    replace hE := hE.cast 19 rfl (show _ = Value.agg ([[.int .i64 0], [.int .i64 0], [.bool false], [.int .u64 0], bv (List.replicate 32 (0 : UInt8)), bv (List.replicate 32 (0 : UInt8)), [.bool false], [.int .u64 0], bv (List.replicate 32 (0 : UInt8)), bv (List.replicate 32 (0 : UInt8)), [.bool false], [.int .i64 0], bv (List.replicate 16 (0 : UInt8)), bv (List.replicate 32 (0 : UInt8)), bv (List.replicate 32 (0 : UInt8)), [.bool false], [.int .i64 0], bv (List.replicate 16 (0 : UInt8)), bv (List.replicate 32 (0 : UInt8)), bv (List.replicate 32 (0 : UInt8)), [.bool false], [.int .i64 0], bv (List.replicate 16 (0 : UInt8)), bv (List.replicate 32 (0 : UInt8)), bv (List.replicate 32 (0 : UInt8)), [.bool false], [.int .i64 0], bv (List.replicate 16 (0 : UInt8)), bv (List.replicate 32 (0 : UInt8)), bv (List.replicate 32 (0 : UInt8))] : List (List Value)).flatten.toArray from (by first | rfl | simp [setAll] | (simp only [setAll, List.set_cons_zero, List.set_cons_succ, List.flatten_cons, List.flatten_nil, List.append_nil, List.append_assoc, List.replicate_succ, List.replicate_zero])))
    have hsl34_4 : (List.replicate 32 (0 : UInt8)).length = 32 := List.length_replicate
    have hsl34_5 : (List.replicate 32 (0 : UInt8)).length = 32 := List.length_replicate
    have hsl34_8 : (List.replicate 32 (0 : UInt8)).length = 32 := List.length_replicate
    have hsl34_9 : (List.replicate 32 (0 : UInt8)).length = 32 := List.length_replicate
    have hsl34_12 : (List.replicate 16 (0 : UInt8)).length = 16 := List.length_replicate
    have hsl34_13 : (List.replicate 32 (0 : UInt8)).length = 32 := List.length_replicate
    have hsl34_14 : (List.replicate 32 (0 : UInt8)).length = 32 := List.length_replicate
    have hsl34_17 : (List.replicate 16 (0 : UInt8)).length = 16 := List.length_replicate
    have hsl34_18 : (List.replicate 32 (0 : UInt8)).length = 32 := List.length_replicate
    have hsl34_19 : (List.replicate 32 (0 : UInt8)).length = 32 := List.length_replicate
    have hsl34_22 : (List.replicate 16 (0 : UInt8)).length = 16 := List.length_replicate
    have hsl34_23 : (List.replicate 32 (0 : UInt8)).length = 32 := List.length_replicate
    have hsl34_24 : (List.replicate 32 (0 : UInt8)).length = 32 := List.length_replicate
    have hsl34_27 : (List.replicate 16 (0 : UInt8)).length = 16 := List.length_replicate
    have hsl34_28 : (List.replicate 32 (0 : UInt8)).length = 32 := List.length_replicate
    have hsl34_29 : (List.replicate 32 (0 : UInt8)).length = 32 := List.length_replicate
    refine s_storeSegs 0 30 (vss := [[.int .i64 0], [.int .i64 0], [.bool false], [.int .u64 0], bv (List.replicate 32 (0 : UInt8)), bv (List.replicate 32 (0 : UInt8)), [.bool false], [.int .u64 0], bv (List.replicate 32 (0 : UInt8)), bv (List.replicate 32 (0 : UInt8)), [.bool false], [.int .i64 0], bv (List.replicate 16 (0 : UInt8)), bv (List.replicate 32 (0 : UInt8)), bv (List.replicate 32 (0 : UInt8)), [.bool false], [.int .i64 0], bv (List.replicate 16 (0 : UInt8)), bv (List.replicate 32 (0 : UInt8)), bv (List.replicate 32 (0 : UInt8)), [.bool false], [.int .i64 0], bv (List.replicate 16 (0 : UInt8)), bv (List.replicate 32 (0 : UInt8)), bv (List.replicate 32 (0 : UInt8)), [.bool false], [.int .i64 0], bv (List.replicate 16 (0 : UInt8)), bv (List.replicate 32 (0 : UInt8)), bv (List.replicate 32 (0 : UInt8))]) hE rfl rfl hM rfl sz39 (by simp only [List.take_succ_cons, List.take_zero, List.drop_zero, List.drop_succ_cons]; simp only [List.map_cons, List.map_nil, bv_length, List.length_cons, List.length_nil, List.length_replicate, hsl34_4, hsl34_5, hsl34_8, hsl34_9, hsl34_12, hsl34_13, hsl34_14, hsl34_17, hsl34_18, hsl34_19, hsl34_22, hsl34_23, hsl34_24, hsl34_27, hsl34_28, hsl34_29]) (by decide) rfl (one_fl ⟨one1 rfl, one1 rfl, one1 rfl, one1 rfl, bv_one _, bv_one _, one1 rfl, one1 rfl, bv_one _, bv_one _, one1 rfl, one1 rfl, bv_one _, bv_one _, bv_one _, one1 rfl, one1 rfl, bv_one _, bv_one _, bv_one _, one1 rfl, one1 rfl, bv_one _, bv_one _, bv_one _, one1 rfl, one1 rfl, bv_one _, bv_one _, bv_one _, trivial⟩) rfl (by intro X h; cases h) ?_; intro w2 hM'; clear hM; have hM := hM'; clear hM'
    try simp only [List.take_zero, List.take_succ_cons, List.drop_zero, List.drop_succ_cons, List.take_nil, List.drop_nil, List.nil_append, List.append_nil, List.cons_append] at hM
    refine s_assign hE rfl rfl ?_; clear hE a; intro a hE
    refine q_nil ?_
    replace hE : Env a 152 [(0, _), (2, _), (3, _), (18, _)] := hE.sel [0, 2, 3, 18] rfl
    refine hK4 _ _ ?_
    refine wp_ret ?_
    refine q_then_r ?_
    refine f_ret2 hE rfl (res_cellN rfl (hM.get 0 rfl) row39 rfl) rfl ?_
    exact ⟨(by rw [e1, e2]; first | rfl | (simp [zH, zV, zS]; done)), hM.pick [] rfl⟩
  · replace hE := hE'; clear hE'
    replace hb18 := of_decide_eq_true (not_false' hb18)
    replace hb18 : ls.length = 8 := by omega
    have hl8 : ls.length = 8 := by omega
    have hl496 : 496 ≤ ls.flatten.length := by omega
    have hl512 : ls.flatten.length = 512 := by omega
    have hv157 := val4 (l := (ls.flatten.drop 157).take 4) (by simp only [List.length_take, List.length_drop]; omega)
    have hv242 := val4 (l := (ls.flatten.drop 242).take 4) (by simp only [List.length_take, List.length_drop]; omega)
    have hv327 := val4 (l := (ls.flatten.drop 327).take 4) (by simp only [List.length_take, List.length_drop]; omega)
    have hv412 := val4 (l := (ls.flatten.drop 412).take 4) (by simp only [List.length_take, List.length_drop]; omega)
    refine wp_cond_false (hE.eval rfl) ?_
    refine wp_skip ?_
    refine hK2 _ _ ?_
    refine wp_seq_k (fun K4 hK4 => ?_)
    refine wp_plain [true, false, true] rfl rfl ?_
    refine s_move hE rfl rfl ?_; clear hE a; intro a hE
    refine s_call hE rfl Try.call17 (rhbytes_c _ ls _ _ (hM.get 1 rfl) ho_ls (by first | omega | assumption | (simp; done) | (simp; omega) | decide)) rfl ?_
    rintro e w2 ⟨v21, rfl, hN⟩
    refine ⟨_, rfl, trivial, ?_⟩; clear hE a; intro a hE
    replace hM : Mem _ _ w2 [_, _, _] := hM.call0 hN ⟨rfl, trivial⟩; clear hN
    obtain ⟨cf, hM⟩ := hM.freeze
    refine s_assign hE rfl rfl ?_; clear hE a; intro a hE
    refine q_nil ?_
    replace hE : Env a 152 [(0, _), (2, _), (3, _), (4, _), (18, _)] := hE.sel [0, 2, 3, 4, 18] rfl
    refine hK4 _ _ ?_
    refine wp_seq_k (fun K5 hK5 => ?_)
    refine wp_plain [false] rfl rfl ?_
    refine s_alloc [1, 1, 1, 1, 32, 32, 1, 1, 32, 32, 1, 1, 16, 32, 32, 1, 1, 16, 32, 32, 1, 1, 16, 32, 32, 1, 1, 16, 32, 32] hE hM zeroL39 rfl rfl ?_; clear hE a; intro a b5 w3 hE hM'
    clear hM; have hM := hM'; clear hM'
    refine q_nil ?_
    refine hK5 _ _ ?_
    refine wp_seq_k (fun K6 hK6 => ?_)
    refine wp_plain [true, true, true, true, true, true, false] rfl rfl ?_
    refine s_move hE rfl rfl ?_; clear hE a; intro a hE
    refine s_indexRd (j := 8) hE rfl (hM.get 1 rfl) rfl slt55 (by first | rfl | omega) (by omega) rfl ?_; clear hE a; intro a p23 hE hc23 hp23
    rw [bv_elem (by omega)] at hc23
    refine s_loadAt1 hE rfl hc23 one5 (by intro X h; cases h) rfl ?_; clear hE a; intro a hE
    refine s_conv hE rfl (cnv_int Try.underlying5 Try.underlying3 (wrap_i64 (by omega) (by have := (ls.flatten.getD 8 0 : UInt8).toNat_lt; omega))) rfl ?_; clear hE a; intro a hE
    refine s_fieldAddr hE rfl fo39_0 rfl ?_; clear hE a; intro a hE
    refine s_fieldAddr hE rfl fo23_0 rfl ?_; clear hE a; intro a hE
    refine s_store1 0 hE rfl rfl hM rfl rfl sz3 rfl rfl (by intro X h; cases h) ?_; intro w4 hM'; clear hM; have hM := hM'; clear hM'
    refine q_nil ?_
    replace hE : Env a 152 [(0, _), (2, _), (3, _), (4, _), (5, _), (18, _)] := hE.sel [0, 2, 3, 4, 5, 18] rfl
    refine hK6 _ _ ?_
    refine wp_seq_k (fun K7 hK7 => ?_)
    refine wp_plain [true, true, true, true, true, true, false] rfl rfl ?_
    refine s_move hE rfl rfl ?_; clear hE a; intro a hE
    refine s_indexRd (j := 9) hE rfl (hM.get 1 rfl) rfl slt55 (by first | rfl | omega) (by omega) rfl ?_; clear hE a; intro a p29 hE hc29 hp29
    rw [bv_elem (by omega)] at hc29
    refine s_loadAt1 hE rfl hc29 one5 (by intro X h; cases h) rfl ?_; clear hE a; intro a hE
    refine s_conv hE rfl (cnv_int Try.underlying5 Try.underlying3 (wrap_i64 (by omega) (by have := (ls.flatten.getD 9 0 : UInt8).toNat_lt; omega))) rfl ?_; clear hE a; intro a hE
    refine s_fieldAddr hE rfl fo39_0 rfl ?_; clear hE a; intro a hE
    refine s_fieldAddr hE rfl fo23_1 rfl ?_; clear hE a; intro a hE
    refine s_store1 1 hE rfl rfl hM rfl rfl sz3 rfl rfl (by intro X h; cases h) ?_; intro w5 hM'; clear hM; have hM := hM'; clear hM'
    refine q_nil ?_
    replace hE : Env a 152 [(0, _), (2, _), (3, _), (4, _), (5, _), (18, _)] := hE.sel [0, 2, 3, 4, 5, 18] rfl
    refine hK7 _ _ ?_
    refine wp_seq_k (fun K8 hK8 => ?_)
    refine wp_plain [true] rfl rfl ?_
    refine s_assign hE rfl rfl ?_; clear hE a; intro a hE
    refine q_nil ?_
    refine hK8 _ _ ?_
    refine wp_seq_k (fun K9 hK9 => ?_)
    refine wp_seq_k (fun K10 hK10 => ?_)
    refine wp_plain [true] rfl rfl ?_
    refine s_assign hE rfl rfl ?_; clear hE a; intro a hE
    refine q_nil ?_
    refine hK10 _ _ ?_
    refine wp_block ?_
    refine wp_loop_rounds 3 (c_rounds ?_)
    refine wp_seq_k (fun K11 hK11 => ?_)
    refine wp_seq_k (fun K12 hK12 => ?_)
    refine wp_plain [true, true] rfl rfl ?_
    refine s_move hE rfl rfl ?_; clear hE a; intro a hE
    refine s_bin hE rfl rfl bin_lss rfl ?_; clear hE a; intro a hE
    replace hE := hE.cast 35 rfl (show _ = Value.bool true from (congrArg Value.bool (by decide)))
    refine q_nil ?_
    replace hE : Env a 152 [(0, _), (2, _), (3, _), (4, _), (5, _), (6, _), (7, _), (18, _), (35, _)] := hE.sel [0, 2, 3, 4, 5, 6, 7, 18, 35] rfl
    refine hK12 _ _ ?_
    refine wp_cond_true (hE.eval rfl) ?_
    refine wp_skip ?_
    refine hK11 _ _ ?_
    refine wp_seq_k (fun K13 hK13 => ?_)
    refine wp_block ?_
    refine wp_seq_k (fun K14 hK14 => ?_)
    refine wp_plain [true, true, true, true, true, true, true, true, true, false] rfl rfl ?_
    refine s_move hE rfl rfl ?_; clear hE a; intro a hE
    refine s_move hE rfl rfl ?_; clear hE a; intro a hE
    refine s_move hE rfl rfl ?_; clear hE a; intro a hE
    refine s_indexRd (j := 10) hE rfl (hM.get 1 rfl) rfl slt55 (by first | rfl | omega) (by omega) rfl ?_; clear hE a; intro a p41 hE hc41 hp41
    rw [bv_elem (by omega)] at hc41
    refine s_loadAt1 hE rfl hc41 one5 (by intro X h; cases h) rfl ?_; clear hE a; intro a hE
    refine s_bin hE rfl rfl bin_eql rfl ?_; clear hE a; intro a hE
    refine s_fieldAddr hE rfl fo39_1 rfl ?_; clear hE a; intro a hE
    refine s_indexArr (j := 0) hE rfl rfl arr32 rfl (by decide) rfl ?_; clear hE a; intro a hE
    refine s_fieldAddr hE rfl fo31_0 rfl ?_; clear hE a; intro a hE
    refine s_store1 2 hE rfl rfl hM rfl rfl sz4 rfl rfl (by intro X h; cases h) ?_; intro w6 hM'; clear hM; have hM := hM'; clear hM'
    refine q_nil ?_
    replace hE : Env a 152 [(0, _), (2, _), (3, _), (4, _), (5, _), (6, _), (7, _), (18, _), (35, _)] := hE.sel [0, 2, 3, 4, 5, 6, 7, 18, 35] rfl
    refine hK14 _ _ ?_
    refine wp_seq_k (fun K15 hK15 => ?_)
    refine wp_plain [true, true, true, true, true, true, true, false, true, true, true, false] rfl rfl ?_
    refine s_move hE rfl rfl ?_; clear hE a; intro a hE
    refine s_move hE rfl rfl ?_; clear hE a; intro a hE
    refine s_move hE rfl rfl ?_; clear hE a; intro a hE
    refine s_bin hE rfl rfl (show Bin _ _ _ _ _ (.int .i64 11) from bin_add (by rw [wrap_i64 (by omega) (by omega)]; omega)) rfl ?_; clear hE a; intro a hE
    refine s_move hE rfl rfl ?_; clear hE a; intro a hE
    refine s_bin hE rfl rfl (show Bin _ _ _ _ _ (.int .i64 19) from bin_add (by rw [wrap_i64 (by omega) (by omega)]; omega)) rfl ?_; clear hE a; intro a hE
    have hcap53 := rd_len (hM.get 1 rfl)
    refine s_slice (l := 11) (h := 19) (mx' := cf) hE rfl (hM.get 1 rfl) slt55 ⟨_, rfl⟩ ⟨_, rfl⟩ rfl (by simp) (by have hl_ : ls.flatten.length = 512 := hl512; first | omega | assumption | (simp; done) | (simp; omega) | decide) (by have hl_ : ls.flatten.length = 512 := hl512; first | omega | assumption | (simp; done) | (simp; omega) | decide) (by have hl_ : ls.flatten.length = 512 := hl512; first | omega | assumption | (simp; done) | (simp; omega) | decide) (by have hl_ : ls.flatten.length = 512 := hl512; first | omega | assumption | (simp; done) | (simp; omega) | decide) rfl ?_; clear hE a; intro a v53 hE hr53 hvb53
    replace hr53 : (rd v53 1 ((ls.flatten.drop 11).take 8).length (cf - 11) (bv ((ls.flatten.drop 11).take 8))).holds _ := rd_mid (by first | omega | assumption | (simp; done) | (simp; omega) | decide) hr53
    replace hM := hM.addPart 1 rfl hr53 hvb53; clear hr53
    refine s_call hE rfl Try.call29 (rvalue6_c _ ((ls.flatten.drop 11).take 8) _ _ (hM.get 0 rfl) (by have hl_0 : ((ls.flatten.drop 11).take 8).length = 8 := (by have hl_q : ls.flatten.length = 512 := hl512; first | (simp only [List.length_take, List.length_drop]; omega) | (simp; try omega)); first | omega | assumption | (simp; done) | (simp; omega) | decide)) rfl ?_
    rintro e w7 ⟨rfl, hN⟩
    refine ⟨_, rfl, trivial, ?_⟩; clear hE a; intro a hE
    replace hM : Mem _ _ w7 [_, _, _, _, _] := hM.call0 hN trivial; clear hN
    refine s_fieldAddr hE rfl fo39_1 rfl ?_; clear hE a; intro a hE
    refine s_indexArr (j := 0) hE rfl rfl arr32 rfl (by decide) rfl ?_; clear hE a; intro a hE
    refine s_fieldAddr hE rfl fo31_1 rfl ?_; clear hE a; intro a hE
    replace hM : Mem _ _ w7 [_, _, _, _, _] := hM.pick [1, 0, 2, 3, 4] rfl
    refine s_store1 3 hE rfl rfl hM rfl rfl sz24 rfl rfl (by intro X h; cases h) ?_; intro w8 hM'; clear hM; have hM := hM'; clear hM'
    refine q_nil ?_
    replace hE : Env a 152 [(0, _), (2, _), (3, _), (4, _), (5, _), (6, _), (7, _), (18, _), (35, _)] := hE.sel [0, 2, 3, 4, 5, 6, 7, 18, 35] rfl
    refine hK15 _ _ ?_
    refine wp_seq_k (fun K16 hK16 => ?_)
    refine wp_plain [true, true, true, true, true, true, false, true, true, true, true, false, false, true, true] rfl rfl ?_
    refine s_move hE rfl rfl ?_; clear hE a; intro a hE
    refine s_move hE rfl rfl ?_; clear hE a; intro a hE
    refine s_bin hE rfl rfl (show Bin _ _ _ _ _ (.int .i64 19) from bin_add (by rw [wrap_i64 (by omega) (by omega)]; omega)) rfl ?_; clear hE a; intro a hE
    refine s_move hE rfl rfl ?_; clear hE a; intro a hE
    refine s_bin hE rfl rfl (show Bin _ _ _ _ _ (.int .i64 83) from bin_add (by rw [wrap_i64 (by omega) (by omega)]; omega)) rfl ?_; clear hE a; intro a hE
    have hcap64 := rd_len (hM.get 2 rfl)
    refine s_slice (l := 19) (h := 83) (mx' := cf) hE rfl (hM.get 2 rfl) slt55 ⟨_, rfl⟩ ⟨_, rfl⟩ rfl (by simp) (by have hl_ : ls.flatten.length = 512 := hl512; first | omega | assumption | (simp; done) | (simp; omega) | decide) (by have hl_ : ls.flatten.length = 512 := hl512; first | omega | assumption | (simp; done) | (simp; omega) | decide) (by have hl_ : ls.flatten.length = 512 := hl512; first | omega | assumption | (simp; done) | (simp; omega) | decide) (by have hl_ : ls.flatten.length = 512 := hl512; first | omega | assumption | (simp; done) | (simp; omega) | decide) rfl ?_; clear hE a; intro a v64 hE hr64 hvb64
    replace hr64 : (rd v64 1 ((ls.flatten.drop 19).take 64).length (cf - 19) (bv ((ls.flatten.drop 19).take 64))).holds _ := rd_mid (by first | omega | assumption | (simp; done) | (simp; omega) | decide) hr64
    replace hM := hM.addPart 2 rfl hr64 hvb64; clear hr64
    have hLb1 : (((ls.flatten.drop 19).take 64).drop 64).length = 64 - 64 := (by have hl_q : ((ls.flatten.drop 19).take 64).length = 64 := (by have hl_q : ls.flatten.length = 512 := hl512; first | (simp only [List.length_take, List.length_drop]; omega) | (simp; try omega)); first | (simp only [List.length_take, List.length_drop]; omega) | (simp; try omega))
    refine s_call hE rfl Try.call30 (rboxget_c _ ((ls.flatten.drop 19).take 64) _ _ (hM.get 0 rfl) (by have hl_0 : ((ls.flatten.drop 19).take 64).length = 64 := (by have hl_q : ls.flatten.length = 512 := hl512; first | (simp only [List.length_take, List.length_drop]; omega) | (simp; try omega)); first | omega | assumption | (simp; done) | (simp; omega) | decide) (by have hl_0 : ((ls.flatten.drop 19).take 64).length = 64 := (by have hl_q : ls.flatten.length = 512 := hl512; first | (simp only [List.length_take, List.length_drop]; omega) | (simp; try omega)); first | omega | assumption | (simp; done) | (simp; omega) | decide)) rfl ?_
    rintro e w9 ⟨v65_1, rfl, hN⟩
    refine ⟨_, rfl, trivial, ?_⟩; clear hE a; intro a hE
    replace hM : Mem _ _ w9 [_, _, _, _, _, _, _] := hM.call0 hN ⟨rfl, trivial⟩; clear hN
    refine s_move hE rfl rfl ?_; clear hE a; intro a hE
    refine s_extract hE rfl rfl rfl ?_; clear hE a; intro a hE
    refine s_extract hE rfl rfl rfl ?_; clear hE a; intro a hE
    refine s_extract hE rfl rfl rfl ?_; clear hE a; intro a hE
    refine s_alloc [32, 32] hE hM zeroL29 rfl rfl ?_; clear hE a; intro a b8 w10 hE hM'
    clear hM; have hM := hM'; clear hM'
    have hsl206_0 : (((ls.flatten.drop 19).take 64).take 32).length = 32 := (by have hl_q : ((ls.flatten.drop 19).take 64).length = 64 := (by have hl_q : ls.flatten.length = 512 := hl512; first | (simp only [List.length_take, List.length_drop]; omega) | (simp; try omega)); first | (simp only [List.length_take, List.length_drop]; omega) | (simp; try omega))
    have hsl206_1 : ((((ls.flatten.drop 19).take 64).drop 32).take 32).length = 32 := (by have hl_q : ((ls.flatten.drop 19).take 64).length = 64 := (by have hl_q : ls.flatten.length = 512 := hl512; first | (simp only [List.length_take, List.length_drop]; omega) | (simp; try omega)); first | (simp only [List.length_take, List.length_drop]; omega) | (simp; try omega))
    refine s_storeSegs 0 2 (vss := [bv (((ls.flatten.drop 19).take 64).take 32), bv ((((ls.flatten.drop 19).take 64).drop 32).take 32)]) hE rfl rfl hM rfl sz29 (by simp only [List.take_succ_cons, List.take_zero, List.drop_zero, List.drop_succ_cons]; simp only [List.map_cons, List.map_nil, bv_length, List.length_cons, List.length_nil, List.length_replicate, hsl206_0, hsl206_1]) (by decide) rfl (one_fl ⟨bv_one _, bv_one _, trivial⟩) rfl (by intro X h; cases h) ?_; intro w11 hM'; clear hM; have hM := hM'; clear hM'
    try simp only [List.take_zero, List.take_succ_cons, List.drop_zero, List.drop_succ_cons, List.take_nil, List.drop_nil, List.nil_append, List.append_nil, List.cons_append] at hM
    refine s_assign hE rfl rfl ?_; clear hE a; intro a hE
    refine s_assign hE rfl rfl ?_; clear hE a; intro a hE
    refine q_nil ?_
    replace hE : Env a 152 [(0, _), (2, _), (3, _), (4, _), (5, _), (6, _), (7, _), (8, _), (18, _), (35, _)] := hE.sel [0, 2, 3, 4, 5, 6, 7, 8, 18, 35] rfl
    refine hK16 _ _ ?_
    refine wp_seq_k (fun K17 hK17 => ?_)
    refine wp_plain [true, true, true, true, true, false] rfl rfl ?_
    refine s_move hE rfl rfl ?_; clear hE a; intro a hE
    refine s_loadN hE rfl (hM.get 0 rfl) row29 rfl (by intro X h; cases h) rfl ?_; clear hE a; intro a hE
    replace hE := hE.cast 70 rfl (show _ = Value.agg ([bv (((ls.flatten.drop 19).take 64).take 32), bv ((((ls.flatten.drop 19).take 64).drop 32).take 32)] : List (List Value)).flatten.toArray from (by first | rfl | simp only [List.flatten_cons, List.flatten_nil, List.append_nil, List.append_assoc]))
    refine s_fieldAddr hE rfl fo39_1 rfl ?_; clear hE a; intro a hE
    refine s_indexArr (j := 0) hE rfl rfl arr32 rfl (by decide) rfl ?_; clear hE a; intro a hE
    refine s_fieldAddr hE rfl fo31_2 rfl ?_; clear hE a; intro a hE
    have hsl223_0 : (((ls.flatten.drop 19).take 64).take 32).length = 32 := (by have hl_q : ((ls.flatten.drop 19).take 64).length = 64 := (by have hl_q : ls.flatten.length = 512 := hl512; first | (simp only [List.length_take, List.length_drop]; omega) | (simp; try omega)); first | (simp only [List.length_take, List.length_drop]; omega) | (simp; try omega))
    have hsl223_1 : ((((ls.flatten.drop 19).take 64).drop 32).take 32).length = 32 := (by have hl_q : ((ls.flatten.drop 19).take 64).length = 64 := (by have hl_q : ls.flatten.length = 512 := hl512; first | (simp only [List.length_take, List.length_drop]; omega) | (simp; try omega)); first | (simp only [List.length_take, List.length_drop]; omega) | (simp; try omega))
    replace hM : Mem _ _ w11 [_, _, _, _, _, _, _, _] := hM.pick [3, 0, 1, 2, 4, 5, 6, 7] rfl
    refine s_storeSegs 4 2 (vss := [bv (((ls.flatten.drop 19).take 64).take 32), bv ((((ls.flatten.drop 19).take 64).drop 32).take 32)]) hE rfl rfl hM rfl sz29 (by simp only [List.take_succ_cons, List.take_zero, List.drop_zero, List.drop_succ_cons]; simp only [List.map_cons, List.map_nil, bv_length, List.length_cons, List.length_nil, List.length_replicate, hsl223_0, hsl223_1]) (by decide) rfl (one_fl ⟨bv_one _, bv_one _, trivial⟩) rfl (by intro X h; cases h) ?_; intro w12 hM'; clear hM; have hM := hM'; clear hM'
    try simp only [List.take_zero, List.take_succ_cons, List.drop_zero, List.drop_succ_cons, List.take_nil, List.drop_nil, List.nil_append, List.append_nil, List.cons_append] at hM
    refine q_nil ?_
    replace hE : Env a 152 [(0, _), (2, _), (3, _), (4, _), (5, _), (6, _), (7, _), (8, _), (18, _), (35, _)] := hE.sel [0, 2, 3, 4, 5, 6, 7, 8, 18, 35] rfl
    refine hK17 _ _ ?_
    refine wp_plain [true, true, true] rfl rfl ?_
    refine s_move hE rfl rfl ?_; clear hE a; intro a hE
    refine s_bin hE rfl rfl (show Bin _ _ _ _ _ (.int .i64 83) from bin_add (by rw [wrap_i64 (by omega) (by omega)]; omega)) rfl ?_; clear hE a; intro a hE
    refine s_assign hE rfl rfl ?_; clear hE a; intro a hE
    refine q_nil ?_
    replace hE : Env a 152 [(0, _), (2, _), (3, _), (4, _), (5, _), (6, _), (7, _), (8, _), (18, _), (35, _)] := hE.sel [0, 2, 3, 4, 5, 6, 7, 8, 18, 35] rfl
    refine q_block_n ?_
    refine hK13 _ _ ?_
    refine wp_plain [true, true, true] rfl rfl ?_
    refine s_move hE rfl rfl ?_; clear hE a; intro a hE
    refine s_bin hE rfl rfl (show Bin _ _ _ _ _ (.int .i64 1) from bin_add (by rw [wrap_i64 (by omega) (by omega)]; omega)) rfl ?_; clear hE a; intro a hE
    refine s_assign hE rfl rfl ?_; clear hE a; intro a hE
    refine q_nil ?_
    replace hE : Env a 152 [(0, _), (2, _), (3, _), (4, _), (5, _), (6, _), (7, _), (8, _), (18, _), (35, _)] := hE.sel [0, 2, 3, 4, 5, 6, 7, 8, 18, 35] rfl
    replace hM : Mem _ _ w12 [_, _, _, _, _] := hM.pick [0, 1, 5, 6, 7] rfl
    refine q_then_n (c_rounds ?_)
    refine wp_seq_k (fun K18 hK18 => ?_)
    refine wp_seq_k (fun K19 hK19 => ?_)
    refine wp_plain [true, true] rfl rfl ?_
    refine s_move hE rfl rfl ?_; clear hE a; intro a hE
    refine s_bin hE rfl rfl bin_lss rfl ?_; clear hE a; intro a hE
    replace hE := hE.cast 35 rfl (show _ = Value.bool true from (congrArg Value.bool (by decide)))
    refine q_nil ?_
    replace hE : Env a 152 [(0, _), (2, _), (3, _), (4, _), (5, _), (6, _), (7, _), (8, _), (18, _), (35, _)] := hE.sel [0, 2, 3, 4, 5, 6, 7, 8, 18, 35] rfl
    refine hK19 _ _ ?_
    refine wp_cond_true (hE.eval rfl) ?_
    refine wp_skip ?_
    refine hK18 _ _ ?_
    refine wp_seq_k (fun K20 hK20 => ?_)
    refine wp_block ?_
    refine wp_seq_k (fun K21 hK21 => ?_)
    refine wp_plain [true, true, true, true, true, true, true, true, true, false] rfl rfl ?_
    refine s_move hE rfl rfl ?_; clear hE a; intro a hE
    refine s_move hE rfl rfl ?_; clear hE a; intro a hE
    refine s_move hE rfl rfl ?_; clear hE a; intro a hE
    refine s_indexRd (j := 83) hE rfl (hM.get 2 rfl) rfl slt55 (by first | rfl | omega) (by omega) rfl ?_; clear hE a; intro a p41 hE hc41 hp41
    rw [bv_elem (by omega)] at hc41
    refine s_loadAt1 hE rfl hc41 one5 (by intro X h; cases h) rfl ?_; clear hE a; intro a hE
    refine s_bin hE rfl rfl bin_eql rfl ?_; clear hE a; intro a hE
    refine s_fieldAddr hE rfl fo39_1 rfl ?_; clear hE a; intro a hE
    refine s_indexArr (j := 1) hE rfl rfl arr32 rfl (by decide) rfl ?_; clear hE a; intro a hE
    refine s_fieldAddr hE rfl fo31_0 rfl ?_; clear hE a; intro a hE
    refine s_store1 6 hE rfl rfl hM rfl rfl sz4 rfl rfl (by intro X h; cases h) ?_; intro w13 hM'; clear hM; have hM := hM'; clear hM'
    refine q_nil ?_
    replace hE : Env a 152 [(0, _), (2, _), (3, _), (4, _), (5, _), (6, _), (7, _), (8, _), (18, _), (35, _)] := hE.sel [0, 2, 3, 4, 5, 6, 7, 8, 18, 35] rfl
    refine hK21 _ _ ?_
    refine wp_seq_k (fun K22 hK22 => ?_)
    refine wp_plain [true, true, true, true, true, true, true, false, true, true, true, false] rfl rfl ?_
    refine s_move hE rfl rfl ?_; clear hE a; intro a hE
    refine s_move hE rfl rfl ?_; clear hE a; intro a hE
    refine s_move hE rfl rfl ?_; clear hE a; intro a hE
    refine s_bin hE rfl rfl (show Bin _ _ _ _ _ (.int .i64 84) from bin_add (by rw [wrap_i64 (by omega) (by omega)]; omega)) rfl ?_; clear hE a; intro a hE
    refine s_move hE rfl rfl ?_; clear hE a; intro a hE
    refine s_bin hE rfl rfl (show Bin _ _ _ _ _ (.int .i64 92) from bin_add (by rw [wrap_i64 (by omega) (by omega)]; omega)) rfl ?_; clear hE a; intro a hE
    have hcap53 := rd_len (hM.get 2 rfl)
    refine s_slice (l := 84) (h := 92) (mx' := cf) hE rfl (hM.get 2 rfl) slt55 ⟨_, rfl⟩ ⟨_, rfl⟩ rfl (by simp) (by have hl_ : ls.flatten.length = 512 := hl512; first | omega | assumption | (simp; done) | (simp; omega) | decide) (by have hl_ : ls.flatten.length = 512 := hl512; first | omega | assumption | (simp; done) | (simp; omega) | decide) (by have hl_ : ls.flatten.length = 512 := hl512; first | omega | assumption | (simp; done) | (simp; omega) | decide) (by have hl_ : ls.flatten.length = 512 := hl512; first | omega | assumption | (simp; done) | (simp; omega) | decide) rfl ?_; clear hE a; intro a v53 hE hr53 hvb53
    replace hr53 : (rd v53 1 ((ls.flatten.drop 84).take 8).length (cf - 84) (bv ((ls.flatten.drop 84).take 8))).holds _ := rd_mid (by first | omega | assumption | (simp; done) | (simp; omega) | decide) hr53
    replace hM := hM.addPart 2 rfl hr53 hvb53; clear hr53
    refine s_call hE rfl Try.call29 (rvalue6_c _ ((ls.flatten.drop 84).take 8) _ _ (hM.get 0 rfl) (by have hl_0 : ((ls.flatten.drop 84).take 8).length = 8 := (by have hl_q : ls.flatten.length = 512 := hl512; first | (simp only [List.length_take, List.length_drop]; omega) | (simp; try omega)); first | omega | assumption | (simp; done) | (simp; omega) | decide)) rfl ?_
    rintro e w14 ⟨rfl, hN⟩
    refine ⟨_, rfl, trivial, ?_⟩; clear hE a; intro a hE
    replace hM : Mem _ _ w14 [_, _, _, _, _, _] := hM.call0 hN trivial; clear hN
    refine s_fieldAddr hE rfl fo39_1 rfl ?_; clear hE a; intro a hE
    refine s_indexArr (j := 1) hE rfl rfl arr32 rfl (by decide) rfl ?_; clear hE a; intro a hE
    refine s_fieldAddr hE rfl fo31_1 rfl ?_; clear hE a; intro a hE
    replace hM : Mem _ _ w14 [_, _, _, _, _, _] := hM.pick [1, 0, 2, 3, 4, 5] rfl
    refine s_store1 7 hE rfl rfl hM rfl rfl sz24 rfl rfl (by intro X h; cases h) ?_; intro w15 hM'; clear hM; have hM := hM'; clear hM'
    refine q_nil ?_
    replace hE : Env a 152 [(0, _), (2, _), (3, _), (4, _), (5, _), (6, _), (7, _), (8, _), (18, _), (35, _)] := hE.sel [0, 2, 3, 4, 5, 6, 7, 8, 18, 35] rfl
    refine hK22 _ _ ?_
    refine wp_seq_k (fun K23 hK23 => ?_)
    refine wp_plain [true, true, true, true, true, true, false, true, true, true, true, false, false, true, true] rfl rfl ?_
    refine s_move hE rfl rfl ?_; clear hE a; intro a hE
    refine s_move hE rfl rfl ?_; clear hE a; intro a hE
    refine s_bin hE rfl rfl (show Bin _ _ _ _ _ (.int .i64 92) from bin_add (by rw [wrap_i64 (by omega) (by omega)]; omega)) rfl ?_; clear hE a; intro a hE
    refine s_move hE rfl rfl ?_; clear hE a; intro a hE
    refine s_bin hE rfl rfl (show Bin _ _ _ _ _ (.int .i64 156) from bin_add (by rw [wrap_i64 (by omega) (by omega)]; omega)) rfl ?_; clear hE a; intro a hE
    have hcap64 := rd_len (hM.get 3 rfl)
    refine s_slice (l := 92) (h := 156) (mx' := cf) hE rfl (hM.get 3 rfl) slt55 ⟨_, rfl⟩ ⟨_, rfl⟩ rfl (by simp) (by have hl_ : ls.flatten.length = 512 := hl512; first | omega | assumption | (simp; done) | (simp; omega) | decide) (by have hl_ : ls.flatten.length = 512 := hl512; first | omega | assumption | (simp; done) | (simp; omega) | decide) (by have hl_ : ls.flatten.length = 512 := hl512; first | omega | assumption | (simp; done) | (simp; omega) | decide) (by have hl_ : ls.flatten.length = 512 := hl512; first | omega | assumption | (simp; done) | (simp; omega) | decide) rfl ?_; clear hE a; intro a v64 hE hr64 hvb64
    replace hr64 : (rd v64 1 ((ls.flatten.drop 92).take 64).length (cf - 92) (bv ((ls.flatten.drop 92).take 64))).holds _ := rd_mid (by first | omega | assumption | (simp; done) | (simp; omega) | decide) hr64
    replace hM := hM.addPart 3 rfl hr64 hvb64; clear hr64
    have hLb2 : (((ls.flatten.drop 92).take 64).drop 64).length = 64 - 64 := (by have hl_q : ((ls.flatten.drop 92).take 64).length = 64 := (by have hl_q : ls.flatten.length = 512 := hl512; first | (simp only [List.length_take, List.length_drop]; omega) | (simp; try omega)); first | (simp only [List.length_take, List.length_drop]; omega) | (simp; try omega))
    refine s_call hE rfl Try.call30 (rboxget_c _ ((ls.flatten.drop 92).take 64) _ _ (hM.get 0 rfl) (by have hl_0 : ((ls.flatten.drop 92).take 64).length = 64 := (by have hl_q : ls.flatten.length = 512 := hl512; first | (simp only [List.length_take, List.length_drop]; omega) | (simp; try omega)); first | omega | assumption | (simp; done) | (simp; omega) | decide) (by have hl_0 : ((ls.flatten.drop 92).take 64).length = 64 := (by have hl_q : ls.flatten.length = 512 := hl512; first | (simp only [List.length_take, List.length_drop]; omega) | (simp; try omega)); first | omega | assumption | (simp; done) | (simp; omega) | decide)) rfl ?_
    rintro e w16 ⟨v65_1, rfl, hN⟩
    refine ⟨_, rfl, trivial, ?_⟩; clear hE a; intro a hE
    replace hM : Mem _ _ w16 [_, _, _, _, _, _, _, _] := hM.call0 hN ⟨rfl, trivial⟩; clear hN
    refine s_move hE rfl rfl ?_; clear hE a; intro a hE
    refine s_extract hE rfl rfl rfl ?_; clear hE a; intro a hE
    refine s_extract hE rfl rfl rfl ?_; clear hE a; intro a hE
    refine s_extract hE rfl rfl rfl ?_; clear hE a; intro a hE
    refine s_alloc [32, 32] hE hM zeroL29 rfl rfl ?_; clear hE a; intro a b8 w17 hE hM'
    clear hM; have hM := hM'; clear hM'
    have hsl323_0 : (((ls.flatten.drop 92).take 64).take 32).length = 32 := (by have hl_q : ((ls.flatten.drop 92).take 64).length = 64 := (by have hl_q : ls.flatten.length = 512 := hl512; first | (simp only [List.length_take, List.length_drop]; omega) | (simp; try omega)); first | (simp only [List.length_take, List.length_drop]; omega) | (simp; try omega))
    have hsl323_1 : ((((ls.flatten.drop 92).take 64).drop 32).take 32).length = 32 := (by have hl_q : ((ls.flatten.drop 92).take 64).length = 64 := (by have hl_q : ls.flatten.length = 512 := hl512; first | (simp only [List.length_take, List.length_drop]; omega) | (simp; try omega)); first | (simp only [List.length_take, List.length_drop]; omega) | (simp; try omega))
    replace hM : Mem _ _ w17 [_, _, _, _, _, _, _, _] := hM.pick [0, 1, 2, 3, 4, 6, 7, 8] rfl
    refine s_storeSegs 0 2 (vss := [bv (((ls.flatten.drop 92).take 64).take 32), bv ((((ls.flatten.drop 92).take 64).drop 32).take 32)]) hE rfl rfl hM rfl sz29 (by simp only [List.take_succ_cons, List.take_zero, List.drop_zero, List.drop_succ_cons]; simp only [List.map_cons, List.map_nil, bv_length, List.length_cons, List.length_nil, List.length_replicate, hsl323_0, hsl323_1]) (by decide) rfl (one_fl ⟨bv_one _, bv_one _, trivial⟩) rfl (by intro X h; cases h) ?_; intro w18 hM'; clear hM; have hM := hM'; clear hM'
    try simp only [List.take_zero, List.take_succ_cons, List.drop_zero, List.drop_succ_cons, List.take_nil, List.drop_nil, List.nil_append, List.append_nil, List.cons_append] at hM
    refine s_assign hE rfl rfl ?_; clear hE a; intro a hE
    refine s_assign hE rfl rfl ?_; clear hE a; intro a hE
    refine q_nil ?_
    replace hE : Env a 152 [(0, _), (2, _), (3, _), (4, _), (5, _), (6, _), (7, _), (8, _), (18, _), (35, _)] := hE.sel [0, 2, 3, 4, 5, 6, 7, 8, 18, 35] rfl
    refine hK23 _ _ ?_
    refine wp_seq_k (fun K24 hK24 => ?_)
    refine wp_plain [true, true, true, true, true, false] rfl rfl ?_
    refine s_move hE rfl rfl ?_; clear hE a; intro a hE
    refine s_loadN hE rfl (hM.get 0 rfl) row29 rfl (by intro X h; cases h) rfl ?_; clear hE a; intro a hE
    replace hE := hE.cast 70 rfl (show _ = Value.agg ([bv (((ls.flatten.drop 92).take 64).take 32), bv ((((ls.flatten.drop 92).take 64).drop 32).take 32)] : List (List Value)).flatten.toArray from (by first | rfl | simp only [List.flatten_cons, List.flatten_nil, List.append_nil, List.append_assoc]))
    refine s_fieldAddr hE rfl fo39_1 rfl ?_; clear hE a; intro a hE
    refine s_indexArr (j := 1) hE rfl rfl arr32 rfl (by decide) rfl ?_; clear hE a; intro a hE
    refine s_fieldAddr hE rfl fo31_2 rfl ?_; clear hE a; intro a hE
    have hsl341_0 : (((ls.flatten.drop 92).take 64).take 32).length = 32 := (by have hl_q : ((ls.flatten.drop 92).take 64).length = 64 := (by have hl_q : ls.flatten.length = 512 := hl512; first | (simp only [List.length_take, List.length_drop]; omega) | (simp; try omega)); first | (simp only [List.length_take, List.length_drop]; omega) | (simp; try omega))
    have hsl341_1 : ((((ls.flatten.drop 92).take 64).drop 32).take 32).length = 32 := (by have hl_q : ((ls.flatten.drop 92).take 64).length = 64 := (by have hl_q : ls.flatten.length = 512 := hl512; first | (simp only [List.length_take, List.length_drop]; omega) | (simp; try omega)); first | (simp only [List.length_take, List.length_drop]; omega) | (simp; try omega))
    replace hM : Mem _ _ w18 [_, _, _, _, _, _, _, _] := hM.pick [3, 0, 1, 2, 4, 5, 6, 7] rfl
    refine s_storeSegs 8 2 (vss := [bv (((ls.flatten.drop 92).take 64).take 32), bv ((((ls.flatten.drop 92).take 64).drop 32).take 32)]) hE rfl rfl hM rfl sz29 (by simp only [List.take_succ_cons, List.take_zero, List.drop_zero, List.drop_succ_cons]; simp only [List.map_cons, List.map_nil, bv_length, List.length_cons, List.length_nil, List.length_replicate, hsl341_0, hsl341_1]) (by decide) rfl (one_fl ⟨bv_one _, bv_one _, trivial⟩) rfl (by intro X h; cases h) ?_; intro w19 hM'; clear hM; have hM := hM'; clear hM'
    try simp only [List.take_zero, List.take_succ_cons, List.drop_zero, List.drop_succ_cons, List.take_nil, List.drop_nil, List.nil_append, List.append_nil, List.cons_append] at hM
    refine q_nil ?_
    replace hE : Env a 152 [(0, _), (2, _), (3, _), (4, _), (5, _), (6, _), (7, _), (8, _), (18, _), (35, _)] := hE.sel [0, 2, 3, 4, 5, 6, 7, 8, 18, 35] rfl
    refine hK24 _ _ ?_
    refine wp_plain [true, true, true] rfl rfl ?_
    refine s_move hE rfl rfl ?_; clear hE a; intro a hE
    refine s_bin hE rfl rfl (show Bin _ _ _ _ _ (.int .i64 156) from bin_add (by rw [wrap_i64 (by omega) (by omega)]; omega)) rfl ?_; clear hE a; intro a hE
    refine s_assign hE rfl rfl ?_; clear hE a; intro a hE
    refine q_nil ?_
    replace hE : Env a 152 [(0, _), (2, _), (3, _), (4, _), (5, _), (6, _), (7, _), (8, _), (18, _), (35, _)] := hE.sel [0, 2, 3, 4, 5, 6, 7, 8, 18, 35] rfl
    refine q_block_n ?_
    refine hK20 _ _ ?_
    refine wp_plain [true, true, true] rfl rfl ?_
    refine s_move hE rfl rfl ?_; clear hE a; intro a hE
    refine s_bin hE rfl rfl (show Bin _ _ _ _ _ (.int .i64 2) from bin_add (by rw [wrap_i64 (by omega) (by omega)]; omega)) rfl ?_; clear hE a; intro a hE
    refine s_assign hE rfl rfl ?_; clear hE a; intro a hE
    refine q_nil ?_
    replace hE : Env a 152 [(0, _), (2, _), (3, _), (4, _), (5, _), (6, _), (7, _), (8, _), (18, _), (35, _)] := hE.sel [0, 2, 3, 4, 5, 6, 7, 8, 18, 35] rfl
    replace hM : Mem _ _ w19 [_, _, _, _, _] := hM.pick [0, 1, 5, 6, 7] rfl
    refine q_then_n (c_rounds ?_)
    refine wp_seq_k (fun K25 hK25 => ?_)
    refine wp_seq_k (fun K26 hK26 => ?_)
    refine wp_plain [true, true] rfl rfl ?_
    refine s_move hE rfl rfl ?_; clear hE a; intro a hE
    refine s_bin hE rfl rfl bin_lss rfl ?_; clear hE a; intro a hE
    replace hE := hE.cast 35 rfl (show _ = Value.bool false from (congrArg Value.bool (by decide)))
    refine q_nil ?_
    replace hE : Env a 152 [(0, _), (2, _), (3, _), (4, _), (5, _), (6, _), (7, _), (8, _), (18, _), (35, _)] := hE.sel [0, 2, 3, 4, 5, 6, 7, 8, 18, 35] rfl
    refine hK26 _ _ ?_
    refine wp_cond_false (hE.eval rfl) ?_
    refine wp_exit ?_
    refine q_then_e ?_
    refine q_then_e ?_
    refine q_block_x ?_
    refine hK9 _ _ ?_
    refine wp_seq_k (fun K27 hK27 => ?_)
    refine wp_seq_k (fun K28 hK28 => ?_)
    refine wp_plain [true] rfl rfl ?_
    refine s_assign hE rfl rfl ?_; clear hE a; intro a hE
    refine q_nil ?_
    refine hK28 _ _ ?_
    refine wp_block ?_
    refine wp_loop_rounds 5 (c_rounds ?_)
    refine wp_seq_k (fun K29 hK29 => ?_)
    refine wp_seq_k (fun K30 hK30 => ?_)
    refine wp_plain [true, true] rfl rfl ?_
    refine s_move hE rfl rfl ?_; clear hE a; intro a hE
    refine s_bin hE rfl rfl bin_lss rfl ?_; clear hE a; intro a hE
    replace hE := hE.cast 77 rfl (show _ = Value.bool true from (congrArg Value.bool (by decide)))
    refine q_nil ?_
    replace hE : Env a 152 [(0, _), (2, _), (3, _), (4, _), (5, _), (6, _), (7, _), (8, _), (11, _), (18, _), (35, _), (77, _)] := hE.sel [0, 2, 3, 4, 5, 6, 7, 8, 11, 18, 35, 77] rfl
    refine hK30 _ _ ?_
    refine wp_cond_true (hE.eval rfl) ?_
    refine wp_skip ?_
    refine hK29 _ _ ?_
    refine wp_seq_k (fun K31 hK31 => ?_)
    refine wp_block ?_
    refine wp_seq_k (fun K32 hK32 => ?_)
    refine wp_plain [true, true, true, true, true, true, true, true, true, false] rfl rfl ?_
    refine s_move hE rfl rfl ?_; clear hE a; intro a hE
    refine s_move hE rfl rfl ?_; clear hE a; intro a hE
    refine s_move hE rfl rfl ?_; clear hE a; intro a hE
    refine s_indexRd (j := 156) hE rfl (hM.get 2 rfl) rfl slt55 (by first | rfl | omega) (by omega) rfl ?_; clear hE a; intro a p83 hE hc83 hp83
    rw [bv_elem (by omega)] at hc83
    refine s_loadAt1 hE rfl hc83 one5 (by intro X h; cases h) rfl ?_; clear hE a; intro a hE
    refine s_bin hE rfl rfl bin_eql rfl ?_; clear hE a; intro a hE
    refine s_fieldAddr hE rfl fo39_2 rfl ?_; clear hE a; intro a hE
    refine s_indexArr (j := 0) hE rfl rfl arr37 rfl (by decide) rfl ?_; clear hE a; intro a hE
    refine s_fieldAddr hE rfl fo36_0 rfl ?_; clear hE a; intro a hE
    refine s_store1 10 hE rfl rfl hM rfl rfl sz4 rfl rfl (by intro X h; cases h) ?_; intro w20 hM'; clear hM; have hM := hM'; clear hM'
    refine q_nil ?_
    replace hE : Env a 152 [(0, _), (2, _), (3, _), (4, _), (5, _), (6, _), (7, _), (8, _), (11, _), (18, _), (35, _), (77, _)] := hE.sel [0, 2, 3, 4, 5, 6, 7, 8, 11, 18, 35, 77] rfl
    refine hK32 _ _ ?_
    refine wp_seq_k (fun K33 hK33 => ?_)
    refine wp_plain [true, true, true, true, true, true, true, false, true, true, true, true, false] rfl rfl ?_
    refine s_move hE rfl rfl ?_; clear hE a; intro a hE
    refine s_move hE rfl rfl ?_; clear hE a; intro a hE
    refine s_move hE rfl rfl ?_; clear hE a; intro a hE
    refine s_bin hE rfl rfl (show Bin _ _ _ _ _ (.int .i64 157) from bin_add (by rw [wrap_i64 (by omega) (by omega)]; omega)) rfl ?_; clear hE a; intro a hE
    refine s_move hE rfl rfl ?_; clear hE a; intro a hE
    refine s_bin hE rfl rfl (show Bin _ _ _ _ _ (.int .i64 161) from bin_add (by rw [wrap_i64 (by omega) (by omega)]; omega)) rfl ?_; clear hE a; intro a hE
    have hcap95 := rd_len (hM.get 2 rfl)
    refine s_slice (l := 157) (h := 161) (mx' := cf) hE rfl (hM.get 2 rfl) slt55 ⟨_, rfl⟩ ⟨_, rfl⟩ rfl (by simp) (by have hl_ : ls.flatten.length = 512 := hl512; first | omega | assumption | (simp; done) | (simp; omega) | decide) (by have hl_ : ls.flatten.length = 512 := hl512; first | omega | assumption | (simp; done) | (simp; omega) | decide) (by have hl_ : ls.flatten.length = 512 := hl512; first | omega | assumption | (simp; done) | (simp; omega) | decide) (by have hl_ : ls.flatten.length = 512 := hl512; first | omega | assumption | (simp; done) | (simp; omega) | decide) rfl ?_; clear hE a; intro a v95 hE hr95 hvb95
    replace hr95 : (rd v95 1 ((ls.flatten.drop 157).take 4).length (cf - 157) (bv ((ls.flatten.drop 157).take 4))).holds _ := rd_mid (by first | omega | assumption | (simp; done) | (simp; omega) | decide) hr95
    replace hM := hM.addPart 2 rfl hr95 hvb95; clear hr95
    refine s_call hE rfl Try.call29 (rvalue6_c _ ((ls.flatten.drop 157).take 4) _ _ (hM.get 0 rfl) (by have hl_0 : ((ls.flatten.drop 157).take 4).length = 4 := (by have hl_q : ls.flatten.length = 512 := hl512; first | (simp only [List.length_take, List.length_drop]; omega) | (simp; try omega)); first | omega | assumption | (simp; done) | (simp; omega) | decide)) rfl ?_
    rintro e w21 ⟨rfl, hN⟩
    refine ⟨_, rfl, trivial, ?_⟩; clear hE a; intro a hE
    replace hM : Mem _ _ w21 [_, _, _, _, _, _] := hM.call0 hN trivial; clear hN
    refine s_conv hE rfl (cnv_int Try.underlying24 Try.underlying3 (wrap_i64 (by omega) (by omega))) rfl ?_; clear hE a; intro a hE
    refine s_fieldAddr hE rfl fo39_2 rfl ?_; clear hE a; intro a hE
    refine s_indexArr (j := 0) hE rfl rfl arr37 rfl (by decide) rfl ?_; clear hE a; intro a hE
    refine s_fieldAddr hE rfl fo36_1 rfl ?_; clear hE a; intro a hE
    replace hM : Mem _ _ w21 [_, _, _, _, _, _] := hM.pick [1, 0, 2, 3, 4, 5] rfl
    refine s_store1 11 hE rfl rfl hM rfl rfl sz3 rfl rfl (by intro X h; cases h) ?_; intro w22 hM'; clear hM; have hM := hM'; clear hM'
    refine q_nil ?_
    replace hE : Env a 152 [(0, _), (2, _), (3, _), (4, _), (5, _), (6, _), (7, _), (8, _), (11, _), (18, _), (35, _), (77, _)] := hE.sel [0, 2, 3, 4, 5, 6, 7, 8, 11, 18, 35, 77] rfl
    refine hK33 _ _ ?_
    refine wp_seq_k (fun K34 hK34 => ?_)
    refine wp_seq_k (fun K35 hK35 => ?_)
    refine wp_plain [true] rfl rfl ?_
    refine s_assign hE rfl rfl ?_; clear hE a; intro a hE
    refine q_nil ?_
    refine hK35 _ _ ?_
    refine wp_block ?_
    replace hM := Mem.blkPart 12 (g := bv (List.replicate 16 (0 : UInt8))) (g' := bv (((ls.flatten.drop 161).take 16).take 0 ++ List.replicate (16 - 0) 0)) hM rfl (by simp)
    simp only [List.set_cons_zero, List.set_cons_succ] at hM
    refine c_loop (fun (k : Nat) a w' => k ≤ 16 ∧ Env a 152 [(0, u), (2, .pointer (some ⟨b2, 0, none⟩)), (3, .int .i64 0), (4, v21), (5, .pointer (some ⟨b5, 0, none⟩)), (6, .int .i64 156), (7, .int .i64 2), (8, .pointer (some ⟨b8, 0, none⟩)), (11, .int .i64 0), (12, .int .i64 ((k : Nat) : Int)), (18, .bool false), (35, .bool false), (77, .bool true)] ∧ Mem w [] w' [blk b5 [[.int .i64 (((ls.flatten.getD 8 0).toNat : Nat) : Int)], [.int .i64 (((ls.flatten.getD 9 0).toNat : Nat) : Int)], [.bool (decide (((ls.flatten.getD 10 0).toNat : Int) = 1))], [.int .u64 ((val ((ls.flatten.drop 11).take 8) : Nat) : Int)], bv (((ls.flatten.drop 19).take 64).take 32), bv ((((ls.flatten.drop 19).take 64).drop 32).take 32), [.bool (decide (((ls.flatten.getD 83 0).toNat : Int) = 1))], [.int .u64 ((val ((ls.flatten.drop 84).take 8) : Nat) : Int)], bv (((ls.flatten.drop 92).take 64).take 32), bv ((((ls.flatten.drop 92).take 64).drop 32).take 32), [.bool (decide (((ls.flatten.getD 156 0).toNat : Int) = 1))], [.int .i64 ((val ((ls.flatten.drop 157).take 4) : Nat) : Int)], bv (((ls.flatten.drop 161).take 16).take k ++ List.replicate (16 - k) 0), bv (List.replicate 32 (0 : UInt8)), bv (List.replicate 32 (0 : UInt8)), [.bool false], [.int .i64 0], bv (List.replicate 16 (0 : UInt8)), bv (List.replicate 32 (0 : UInt8)), bv (List.replicate 32 (0 : UInt8)), [.bool false], [.int .i64 0], bv (List.replicate 16 (0 : UInt8)), bv (List.replicate 32 (0 : UInt8)), bv (List.replicate 32 (0 : UInt8)), [.bool false], [.int .i64 0], bv (List.replicate 16 (0 : UInt8)), bv (List.replicate 32 (0 : UInt8)), bv (List.replicate 32 (0 : UInt8))] [1, 1, 1, 1, 32, 32, 1, 1, 32, 32, 1, 1, 16, 32, 32, 1, 1, 16, 32, 32, 1, 1, 16, 32, 32, 1, 1, 16, 32, 32] 39, rd v95 1 ((ls.flatten.drop 157).take 4).length (cf - 157) (bv ((ls.flatten.drop 157).take 4)), blk b8 [bv (((ls.flatten.drop 92).take 64).take 32), bv ((((ls.flatten.drop 92).take 64).drop 32).take 32)] [32, 32] 29, rd v21 1 ls.flatten.length cf (bv ls.flatten), blk b2 [[.int .i64 0], [.int .i64 0], [.bool false], [.int .u64 0], bv (List.replicate 32 (0 : UInt8)), bv (List.replicate 32 (0 : UInt8)), [.bool false], [.int .u64 0], bv (List.replicate 32 (0 : UInt8)), bv (List.replicate 32 (0 : UInt8)), [.bool false], [.int .i64 0], bv (List.replicate 16 (0 : UInt8)), bv (List.replicate 32 (0 : UInt8)), bv (List.replicate 32 (0 : UInt8)), [.bool false], [.int .i64 0], bv (List.replicate 16 (0 : UInt8)), bv (List.replicate 32 (0 : UInt8)), bv (List.replicate 32 (0 : UInt8)), [.bool false], [.int .i64 0], bv (List.replicate 16 (0 : UInt8)), bv (List.replicate 32 (0 : UInt8)), bv (List.replicate 32 (0 : UInt8)), [.bool false], [.int .i64 0], bv (List.replicate 16 (0 : UInt8)), bv (List.replicate 32 (0 : UInt8)), bv (List.replicate 32 (0 : UInt8))] [1, 1, 1, 1, 32, 32, 1, 1, 32, 32, 1, 1, 16, 32, 32, 1, 1, 16, 32, 32, 1, 1, 16, 32, 32, 1, 1, 16, 32, 32] 39, rd u 64 ls.length lc (ls.flatMap bv)]) (fun k => 16 - k) 0 ⟨Nat.zero_le _, hE.sel [0, 2, 3, 4, 5, 6, 7, 8, 11, 12, 18, 35, 77] rfl, hM⟩ ?_
    clear hE hM a; rintro k a w23 ⟨hk, hE, hM⟩
    refine wp_seq_k (fun K36 hK36 => ?_)
    refine wp_seq_k (fun K37 hK37 => ?_)
    refine wp_plain [true, true] rfl rfl ?_
    refine s_move hE rfl rfl ?_; clear hE a; intro a hE
    refine s_bin hE rfl rfl bin_lss rfl ?_; clear hE a; intro a hE
    refine q_nil ?_
    replace hE : Env a 152 [(0, _), (2, _), (3, _), (4, _), (5, _), (6, _), (7, _), (8, _), (11, _), (12, _), (18, _), (35, _), (77, _), (102, _)] := hE.sel [0, 2, 3, 4, 5, 6, 7, 8, 11, 12, 18, 35, 77, 102] rfl
    refine hK37 _ _ ?_
    refine hE.split 102 rfl (fun hb102 hE' => ?_) (fun hb102 hE' => ?_)
    · replace hE := hE'; clear hE'
      replace hb102 := of_decide_eq_true hb102
      replace hb102 : k < 16 := by omega
      replace hb102 : k < 16 := by omega
      refine wp_cond_true (hE.eval rfl) ?_
      refine wp_skip ?_
      refine hK36 _ _ ?_
      refine wp_seq_k (fun K38 hK38 => ?_)
      refine wp_block ?_
      refine wp_treeM hM (by kernel_rfl) (fun _ => True) (fun _ => True) (.re [(0, true), (1, true), (2, true), (3, true), (4, true), (5, true), (6, true), (7, true), (9, true), (10, true), (11, true), (8, true), (12, true), (13, false)] (.fl 11 (.weak (.fl 2 (.cut (.or 13 (.cut (.re [] (.weak (.leaf 0)))) (.stop))))))) [(0, true), (1, true), (2, true), (3, true), (4, true), (5, true), (6, true), (7, true), (9, true), (10, true), (11, true), (8, true), (12, true), (13, false)] [(4, [(6, 4), (7, 6), (8, 7), (12, 4), (13, 4)]), (6, [(7, 6), (8, 7), (12, 6), (13, 6)]), (7, [(8, 7), (12, 7), (13, 7)]), (8, [(12, 8), (13, 8)]), (9, [(10, 9), (11, 10), (12, 11), (13, 12)]), (10, [(11, 10), (12, 11), (13, 12)]), (11, [(12, 11), (13, 12)]), (12, [(13, 12)]), (13, [])] (by kernel_rfl) ?_
      intro w24 hM' hww24; clear hM; have hM := hM'; clear hM'
      refine o_re ?_
      refine o_fl rfl ?_
      refine s_move hE rfl rfl ?_; clear hE a; intro a hE
      refine s_move hE rfl rfl ?_; clear hE a; intro a hE
      refine s_move hE rfl rfl ?_; clear hE a; intro a hE
      refine s_move hE rfl rfl ?_; clear hE a; intro a hE
      refine s_bin hE rfl rfl (show Bin _ _ _ _ _ (.int .i64 161) from bin_add (by rw [wrap_i64 (by omega) (by omega)]; omega)) rfl ?_; clear hE a; intro a hE
      refine s_move hE rfl rfl ?_; clear hE a; intro a hE
      refine s_bin hE rfl rfl (show Bin _ _ _ _ _ (.int .i64 ((161 + k : Nat) : Int)) from bin_add (by rw [wrap_i64 (by omega) (by omega)]; omega)) rfl ?_; clear hE a; intro a hE
      refine s_indexRd (j := 161 + k) hE rfl (hM.get 3 rfl) rfl slt55 (by first | rfl | omega) (by omega) rfl ?_; clear hE a; intro a p112 hE hc112 hp112
      refine s_fieldAddr hE rfl fo39_2 rfl ?_; clear hE a; intro a hE
      refine s_indexArr (j := 0) hE rfl rfl arr37 rfl (by decide) rfl ?_; clear hE a; intro a hE
      refine s_fieldAddr hE rfl fo36_2 rfl ?_; clear hE a; intro a hE
      refine q_nil (q_nx ?_)
      refine o_weak (fun _ => False) (fun _ _ => trivial) ?_
      refine o_fl rfl ?_
      rw [bv_elem (by omega)] at hc112
      refine s_loadAt1 hE rfl hc112 one5 (by intro X h; cases h; simp) rfl ?_; clear hE a; intro a hE
      refine s_indexArr (j := k) hE rfl rfl arr34 (by first | rfl | omega) (by first | omega | decide) rfl ?_; clear hE a; intro a hE
      refine q_nil (q_nx ?_)
      refine o_cut (fun b => b = b5) ?_
      refine o_or rfl ?_ ?_
      · refine s_storePart8 (j := k) (g := ((ls.flatten.drop 161).take 16).take k ++ List.replicate (16 - k) 0) (c := ls.flatten.getD (161 + k) 0) 12 hE rfl (by first | rfl | omega | (simp; done) | (simp; omega)) rfl hM sz5 rfl (by have hl_ : (((ls.flatten.drop 161).take 16).take k ++ List.replicate (16 - k) 0).length = 16 := (cpy_len (by simp only [List.length_take, List.length_drop]; omega) (by omega)); first | omega | (rw [bv_length]; omega) | (simp; omega)) (by intro X h; cases h; rfl) ?_; intro w25 hM'; clear hM; have hM := hM'; clear hM'
        simp only [List.set_cons_zero, List.set_cons_succ] at hM
        refine q_nil (q_nx ?_)
        refine o_cut (fun _ => True) ?_
        refine o_re ?_
        refine o_weak (fun _ => False) (fun _ _ => trivial) ?_
        refine o_leaf rfl rfl ?_
        refine q_nil (q_ph (q_nil ?_))
        replace hE : Env a 152 [(0, _), (2, _), (3, _), (4, _), (5, _), (6, _), (7, _), (8, _), (11, _), (12, _), (18, _), (35, _), (77, _), (102, _)] := hE.sel [0, 2, 3, 4, 5, 6, 7, 8, 11, 12, 18, 35, 77, 102] rfl
        refine q_block_n ?_
        refine hK38 _ _ ?_
        refine wp_plain [true, true, true] rfl rfl ?_
        refine s_move hE rfl rfl ?_; clear hE a; intro a hE
        refine s_bin hE rfl rfl (show Bin _ _ _ _ _ (.int .i64 ((k + 1 : Nat) : Int)) from bin_add (by rw [wrap_i64 (by omega) (by omega)]; omega)) rfl ?_; clear hE a; intro a hE
        refine s_assign hE rfl rfl ?_; clear hE a; intro a hE
        refine q_nil ?_
        replace hE : Env a 152 [(0, _), (2, _), (3, _), (4, _), (5, _), (6, _), (7, _), (8, _), (11, _), (12, _), (18, _), (35, _), (77, _), (102, _)] := hE.sel [0, 2, 3, 4, 5, 6, 7, 8, 11, 12, 18, 35, 77, 102] rfl
        replace hE := hE.cast 12 rfl (show _ = Value.int .i64 (((k + 1) : Nat) : Int) from (congrArg _ (by omega)))
        replace hM := Mem.blkPart 12 (g := bv ((((ls.flatten.drop 161).take 16).take k ++ List.replicate (16 - k) 0).set k (ls.flatten.getD (161 + k) 0))) (g' := bv (((ls.flatten.drop 161).take 16).take (k + 1) ++ List.replicate (16 - (k + 1)) 0)) hM rfl (by rw [getD_dt (p := 161) (k := 16) (by omega), cpy_set (by simp only [List.length_take, List.length_drop]; omega) (by simp only [List.length_take, List.length_drop]; omega)])
        simp only [List.set_cons_zero, List.set_cons_succ] at hM
        replace hM : Mem _ _ w25 [_, _, _, _, _, _] := hM.pick [0, 1, 2, 3, 4, 5] rfl
        exact ⟨k + 1, ⟨by omega, hE.sel [0, 2, 3, 4, 5, 6, 7, 8, 11, 12, 18, 35, 77] rfl, hM⟩, by omega⟩
      trivial
    · replace hE := hE'; clear hE'
      replace hb102 := of_decide_eq_false hb102
      replace hb102 : ¬ (k < 16) := by omega
      obtain rfl : 16 = k := by omega
      replace hM := Mem.blkPart 12 (g := bv (((ls.flatten.drop 161).take 16).take 16 ++ List.replicate (16 - 16) 0)) (g' := bv ((ls.flatten.drop 161).take 16)) hM rfl (by rw [cpy_end (by simp only [List.length_take, List.length_drop]; omega)])
      simp only [List.set_cons_zero, List.set_cons_succ] at hM
      refine wp_cond_false (hE.eval rfl) ?_
      refine wp_exit ?_
      refine q_then_e ?_
      refine q_then_e ?_
      refine q_block_x ?_
      refine hK34 _ _ ?_
      refine wp_seq_k (fun K38 hK38 => ?_)
      refine wp_plain [true, true, true, true, true, true, false, true, true, true, true, false, false, true, true] rfl rfl ?_
      refine s_move hE rfl rfl ?_; clear hE a; intro a hE
      refine s_move hE rfl rfl ?_; clear hE a; intro a hE
      refine s_bin hE rfl rfl (show Bin _ _ _ _ _ (.int .i64 177) from bin_add (by rw [wrap_i64 (by omega) (by omega)]; omega)) rfl ?_; clear hE a; intro a hE
      refine s_move hE rfl rfl ?_; clear hE a; intro a hE
      refine s_bin hE rfl rfl (show Bin _ _ _ _ _ (.int .i64 241) from bin_add (by rw [wrap_i64 (by omega) (by omega)]; omega)) rfl ?_; clear hE a; intro a hE
      have hcap124 := rd_len (hM.get 3 rfl)
      refine s_slice (l := 177) (h := 241) (mx' := cf) hE rfl (hM.get 3 rfl) slt55 ⟨_, rfl⟩ ⟨_, rfl⟩ rfl (by simp) (by have hl_ : ls.flatten.length = 512 := hl512; first | omega | assumption | (simp; done) | (simp; omega) | decide) (by have hl_ : ls.flatten.length = 512 := hl512; first | omega | assumption | (simp; done) | (simp; omega) | decide) (by have hl_ : ls.flatten.length = 512 := hl512; first | omega | assumption | (simp; done) | (simp; omega) | decide) (by have hl_ : ls.flatten.length = 512 := hl512; first | omega | assumption | (simp; done) | (simp; omega) | decide) rfl ?_; clear hE a; intro a v124 hE hr124 hvb124
      replace hr124 : (rd v124 1 ((ls.flatten.drop 177).take 64).length (cf - 177) (bv ((ls.flatten.drop 177).take 64))).holds _ := rd_mid (by first | omega | assumption | (simp; done) | (simp; omega) | decide) hr124
      replace hM := hM.addPart 3 rfl hr124 hvb124; clear hr124
      have hLb3 : (((ls.flatten.drop 177).take 64).drop 64).length = 64 - 64 := (by have hl_q : ((ls.flatten.drop 177).take 64).length = 64 := (by have hl_q : ls.flatten.length = 512 := hl512; first | (simp only [List.length_take, List.length_drop]; omega) | (simp; try omega)); first | (simp only [List.length_take, List.length_drop]; omega) | (simp; try omega))
      refine s_call hE rfl Try.call30 (rboxget_c _ ((ls.flatten.drop 177).take 64) _ _ (hM.get 0 rfl) (by have hl_0 : ((ls.flatten.drop 177).take 64).length = 64 := (by have hl_q : ls.flatten.length = 512 := hl512; first | (simp only [List.length_take, List.length_drop]; omega) | (simp; try omega)); first | omega | assumption | (simp; done) | (simp; omega) | decide) (by have hl_0 : ((ls.flatten.drop 177).take 64).length = 64 := (by have hl_q : ls.flatten.length = 512 := hl512; first | (simp only [List.length_take, List.length_drop]; omega) | (simp; try omega)); first | omega | assumption | (simp; done) | (simp; omega) | decide)) rfl ?_
      rintro e w24 ⟨v125_1, rfl, hN⟩
      refine ⟨_, rfl, trivial, ?_⟩; clear hE a; intro a hE
      replace hM : Mem _ _ w24 [_, _, _, _, _, _, _, _] := hM.call0 hN ⟨rfl, trivial⟩; clear hN
      refine s_move hE rfl rfl ?_; clear hE a; intro a hE
      refine s_extract hE rfl rfl rfl ?_; clear hE a; intro a hE
      refine s_extract hE rfl rfl rfl ?_; clear hE a; intro a hE
      refine s_extract hE rfl rfl rfl ?_; clear hE a; intro a hE
      refine s_alloc [32, 32] hE hM zeroL29 rfl rfl ?_; clear hE a; intro a b13 w25 hE hM'
      clear hM; have hM := hM'; clear hM'
      have hsl553_0 : (((ls.flatten.drop 177).take 64).take 32).length = 32 := (by have hl_q : ((ls.flatten.drop 177).take 64).length = 64 := (by have hl_q : ls.flatten.length = 512 := hl512; first | (simp only [List.length_take, List.length_drop]; omega) | (simp; try omega)); first | (simp only [List.length_take, List.length_drop]; omega) | (simp; try omega))
      have hsl553_1 : ((((ls.flatten.drop 177).take 64).drop 32).take 32).length = 32 := (by have hl_q : ((ls.flatten.drop 177).take 64).length = 64 := (by have hl_q : ls.flatten.length = 512 := hl512; first | (simp only [List.length_take, List.length_drop]; omega) | (simp; try omega)); first | (simp only [List.length_take, List.length_drop]; omega) | (simp; try omega))
      refine s_storeSegs 0 2 (vss := [bv (((ls.flatten.drop 177).take 64).take 32), bv ((((ls.flatten.drop 177).take 64).drop 32).take 32)]) hE rfl rfl hM rfl sz29 (by simp only [List.take_succ_cons, List.take_zero, List.drop_zero, List.drop_succ_cons]; simp only [List.map_cons, List.map_nil, bv_length, List.length_cons, List.length_nil, List.length_replicate, hsl553_0, hsl553_1]) (by decide) rfl (one_fl ⟨bv_one _, bv_one _, trivial⟩) rfl (by intro X h; cases h) ?_; intro w26 hM'; clear hM; have hM := hM'; clear hM'
      try simp only [List.take_zero, List.take_succ_cons, List.drop_zero, List.drop_succ_cons, List.take_nil, List.drop_nil, List.nil_append, List.append_nil, List.cons_append] at hM
      refine s_assign hE rfl rfl ?_; clear hE a; intro a hE
      refine s_assign hE rfl rfl ?_; clear hE a; intro a hE
      refine q_nil ?_
      replace hE : Env a 152 [(0, _), (2, _), (3, _), (4, _), (5, _), (6, _), (7, _), (8, _), (11, _), (12, _), (13, _), (18, _), (35, _), (77, _), (102, _)] := hE.sel [0, 2, 3, 4, 5, 6, 7, 8, 11, 12, 13, 18, 35, 77, 102] rfl
      refine hK38 _ _ ?_
      refine wp_seq_k (fun K39 hK39 => ?_)
      refine wp_plain [true, true, true, true, true, false] rfl rfl ?_
      refine s_move hE rfl rfl ?_; clear hE a; intro a hE
      refine s_loadN hE rfl (hM.get 0 rfl) row29 rfl (by intro X h; cases h) rfl ?_; clear hE a; intro a hE
      replace hE := hE.cast 130 rfl (show _ = Value.agg ([bv (((ls.flatten.drop 177).take 64).take 32), bv ((((ls.flatten.drop 177).take 64).drop 32).take 32)] : List (List Value)).flatten.toArray from (by first | rfl | simp only [List.flatten_cons, List.flatten_nil, List.append_nil, List.append_assoc]))
      refine s_fieldAddr hE rfl fo39_2 rfl ?_; clear hE a; intro a hE
      refine s_indexArr (j := 0) hE rfl rfl arr37 rfl (by decide) rfl ?_; clear hE a; intro a hE
      refine s_fieldAddr hE rfl fo36_3 rfl ?_; clear hE a; intro a hE
      have hsl570_0 : (((ls.flatten.drop 177).take 64).take 32).length = 32 := (by have hl_q : ((ls.flatten.drop 177).take 64).length = 64 := (by have hl_q : ls.flatten.length = 512 := hl512; first | (simp only [List.length_take, List.length_drop]; omega) | (simp; try omega)); first | (simp only [List.length_take, List.length_drop]; omega) | (simp; try omega))
      have hsl570_1 : ((((ls.flatten.drop 177).take 64).drop 32).take 32).length = 32 := (by have hl_q : ((ls.flatten.drop 177).take 64).length = 64 := (by have hl_q : ls.flatten.length = 512 := hl512; first | (simp only [List.length_take, List.length_drop]; omega) | (simp; try omega)); first | (simp only [List.length_take, List.length_drop]; omega) | (simp; try omega))
      replace hM : Mem _ _ w26 [_, _, _, _, _, _, _, _, _] := hM.pick [3, 0, 1, 2, 4, 5, 6, 7, 8] rfl
      refine s_storeSegs 13 2 (vss := [bv (((ls.flatten.drop 177).take 64).take 32), bv ((((ls.flatten.drop 177).take 64).drop 32).take 32)]) hE rfl rfl hM rfl sz29 (by simp only [List.take_succ_cons, List.take_zero, List.drop_zero, List.drop_succ_cons]; simp only [List.map_cons, List.map_nil, bv_length, List.length_cons, List.length_nil, List.length_replicate, hsl570_0, hsl570_1]) (by decide) rfl (one_fl ⟨bv_one _, bv_one _, trivial⟩) rfl (by intro X h; cases h) ?_; intro w27 hM'; clear hM; have hM := hM'; clear hM'
      try simp only [List.take_zero, List.take_succ_cons, List.drop_zero, List.drop_succ_cons, List.take_nil, List.drop_nil, List.nil_append, List.append_nil, List.cons_append] at hM
      refine q_nil ?_
      replace hE : Env a 152 [(0, _), (2, _), (3, _), (4, _), (5, _), (6, _), (7, _), (8, _), (11, _), (12, _), (13, _), (18, _), (35, _), (77, _), (102, _)] := hE.sel [0, 2, 3, 4, 5, 6, 7, 8, 11, 12, 13, 18, 35, 77, 102] rfl
      refine hK39 _ _ ?_
      refine wp_plain [true, true, true] rfl rfl ?_
      refine s_move hE rfl rfl ?_; clear hE a; intro a hE
      refine s_bin hE rfl rfl (show Bin _ _ _ _ _ (.int .i64 241) from bin_add (by rw [wrap_i64 (by omega) (by omega)]; omega)) rfl ?_; clear hE a; intro a hE
      refine s_assign hE rfl rfl ?_; clear hE a; intro a hE
      refine q_nil ?_
      replace hE : Env a 152 [(0, _), (2, _), (3, _), (4, _), (5, _), (6, _), (7, _), (8, _), (11, _), (12, _), (13, _), (18, _), (35, _), (77, _), (102, _)] := hE.sel [0, 2, 3, 4, 5, 6, 7, 8, 11, 12, 13, 18, 35, 77, 102] rfl
      refine q_block_n ?_
      refine hK31 _ _ ?_
      refine wp_plain [true, true, true] rfl rfl ?_
      refine s_move hE rfl rfl ?_; clear hE a; intro a hE
      refine s_bin hE rfl rfl (show Bin _ _ _ _ _ (.int .i64 1) from bin_add (by rw [wrap_i64 (by omega) (by omega)]; omega)) rfl ?_; clear hE a; intro a hE
      refine s_assign hE rfl rfl ?_; clear hE a; intro a hE
      refine q_nil ?_
      replace hE : Env a 152 [(0, _), (2, _), (3, _), (4, _), (5, _), (6, _), (7, _), (8, _), (11, _), (12, _), (13, _), (18, _), (35, _), (77, _), (102, _)] := hE.sel [0, 2, 3, 4, 5, 6, 7, 8, 11, 12, 13, 18, 35, 77, 102] rfl
      replace hM : Mem _ _ w27 [_, _, _, _, _, _] := hM.pick [0, 1, 5, 6, 7, 8] rfl
      refine q_then_n (c_rounds ?_)
      refine wp_seq_k (fun K40 hK40 => ?_)
      refine wp_seq_k (fun K41 hK41 => ?_)
      refine wp_plain [true, true] rfl rfl ?_
      refine s_move hE rfl rfl ?_; clear hE a; intro a hE
      refine s_bin hE rfl rfl bin_lss rfl ?_; clear hE a; intro a hE
      replace hE := hE.cast 77 rfl (show _ = Value.bool true from (congrArg Value.bool (by decide)))
      refine q_nil ?_
      replace hE : Env a 152 [(0, _), (2, _), (3, _), (4, _), (5, _), (6, _), (7, _), (8, _), (11, _), (12, _), (13, _), (18, _), (35, _), (77, _), (102, _)] := hE.sel [0, 2, 3, 4, 5, 6, 7, 8, 11, 12, 13, 18, 35, 77, 102] rfl
      refine hK41 _ _ ?_
      refine wp_cond_true (hE.eval rfl) ?_
      refine wp_skip ?_
      refine hK40 _ _ ?_
      refine wp_seq_k (fun K42 hK42 => ?_)
      refine wp_block ?_
      refine wp_seq_k (fun K43 hK43 => ?_)
      refine wp_plain [true, true, true, true, true, true, true, true, true, false] rfl rfl ?_
      refine s_move hE rfl rfl ?_; clear hE a; intro a hE
      refine s_move hE rfl rfl ?_; clear hE a; intro a hE
      refine s_move hE rfl rfl ?_; clear hE a; intro a hE
      refine s_indexRd (j := 241) hE rfl (hM.get 3 rfl) rfl slt55 (by first | rfl | omega) (by omega) rfl ?_; clear hE a; intro a p83 hE hc83 hp83
      rw [bv_elem (by omega)] at hc83
      refine s_loadAt1 hE rfl hc83 one5 (by intro X h; cases h) rfl ?_; clear hE a; intro a hE
      refine s_bin hE rfl rfl bin_eql rfl ?_; clear hE a; intro a hE
      refine s_fieldAddr hE rfl fo39_2 rfl ?_; clear hE a; intro a hE
      refine s_indexArr (j := 1) hE rfl rfl arr37 rfl (by decide) rfl ?_; clear hE a; intro a hE
      refine s_fieldAddr hE rfl fo36_0 rfl ?_; clear hE a; intro a hE
      refine s_store1 15 hE rfl rfl hM rfl rfl sz4 rfl rfl (by intro X h; cases h) ?_; intro w28 hM'; clear hM; have hM := hM'; clear hM'
      refine q_nil ?_
      replace hE : Env a 152 [(0, _), (2, _), (3, _), (4, _), (5, _), (6, _), (7, _), (8, _), (11, _), (12, _), (13, _), (18, _), (35, _), (77, _), (102, _)] := hE.sel [0, 2, 3, 4, 5, 6, 7, 8, 11, 12, 13, 18, 35, 77, 102] rfl
      refine hK43 _ _ ?_
      refine wp_seq_k (fun K44 hK44 => ?_)
      refine wp_plain [true, true, true, true, true, true, true, false, true, true, true, true, false] rfl rfl ?_
      refine s_move hE rfl rfl ?_; clear hE a; intro a hE
      refine s_move hE rfl rfl ?_; clear hE a; intro a hE
      refine s_move hE rfl rfl ?_; clear hE a; intro a hE
      refine s_bin hE rfl rfl (show Bin _ _ _ _ _ (.int .i64 242) from bin_add (by rw [wrap_i64 (by omega) (by omega)]; omega)) rfl ?_; clear hE a; intro a hE
      refine s_move hE rfl rfl ?_; clear hE a; intro a hE
      refine s_bin hE rfl rfl (show Bin _ _ _ _ _ (.int .i64 246) from bin_add (by rw [wrap_i64 (by omega) (by omega)]; omega)) rfl ?_; clear hE a; intro a hE
      have hcap95 := rd_len (hM.get 3 rfl)
      refine s_slice (l := 242) (h := 246) (mx' := cf) hE rfl (hM.get 3 rfl) slt55 ⟨_, rfl⟩ ⟨_, rfl⟩ rfl (by simp) (by have hl_ : ls.flatten.length = 512 := hl512; first | omega | assumption | (simp; done) | (simp; omega) | decide) (by have hl_ : ls.flatten.length = 512 := hl512; first | omega | assumption | (simp; done) | (simp; omega) | decide) (by have hl_ : ls.flatten.length = 512 := hl512; first | omega | assumption | (simp; done) | (simp; omega) | decide) (by have hl_ : ls.flatten.length = 512 := hl512; first | omega | assumption | (simp; done) | (simp; omega) | decide) rfl ?_; clear hE a; intro a v95 hE hr95 hvb95
      replace hr95 : (rd v95 1 ((ls.flatten.drop 242).take 4).length (cf - 242) (bv ((ls.flatten.drop 242).take 4))).holds _ := rd_mid (by first | omega | assumption | (simp; done) | (simp; omega) | decide) hr95
      replace hM := hM.addPart 3 rfl hr95 hvb95; clear hr95
      refine s_call hE rfl Try.call29 (rvalue6_c _ ((ls.flatten.drop 242).take 4) _ _ (hM.get 0 rfl) (by have hl_0 : ((ls.flatten.drop 242).take 4).length = 4 := (by have hl_q : ls.flatten.length = 512 := hl512; first | (simp only [List.length_take, List.length_drop]; omega) | (simp; try omega)); first | omega | assumption | (simp; done) | (simp; omega) | decide)) rfl ?_
      rintro e w29 ⟨rfl, hN⟩
      refine ⟨_, rfl, trivial, ?_⟩; clear hE a; intro a hE
      replace hM : Mem _ _ w29 [_, _, _, _, _, _, _] := hM.call0 hN trivial; clear hN
      refine s_conv hE rfl (cnv_int Try.underlying24 Try.underlying3 (wrap_i64 (by omega) (by omega))) rfl ?_; clear hE a; intro a hE
      refine s_fieldAddr hE rfl fo39_2 rfl ?_; clear hE a; intro a hE
      refine s_indexArr (j := 1) hE rfl rfl arr37 rfl (by decide) rfl ?_; clear hE a; intro a hE
      refine s_fieldAddr hE rfl fo36_1 rfl ?_; clear hE a; intro a hE
      replace hM : Mem _ _ w29 [_, _, _, _, _, _, _] := hM.pick [1, 0, 2, 3, 4, 5, 6] rfl
      refine s_store1 16 hE rfl rfl hM rfl rfl sz3 rfl rfl (by intro X h; cases h) ?_; intro w30 hM'; clear hM; have hM := hM'; clear hM'
      refine q_nil ?_
      replace hE : Env a 152 [(0, _), (2, _), (3, _), (4, _), (5, _), (6, _), (7, _), (8, _), (11, _), (12, _), (13, _), (18, _), (35, _), (77, _), (102, _)] := hE.sel [0, 2, 3, 4, 5, 6, 7, 8, 11, 12, 13, 18, 35, 77, 102] rfl
      refine hK44 _ _ ?_
      refine wp_seq_k (fun K45 hK45 => ?_)
      refine wp_seq_k (fun K46 hK46 => ?_)
      refine wp_plain [true] rfl rfl ?_
      refine s_assign hE rfl rfl ?_; clear hE a; intro a hE
      refine q_nil ?_
      refine hK46 _ _ ?_
      refine wp_block ?_
      replace hM := Mem.blkPart 17 (g := bv (List.replicate 16 (0 : UInt8))) (g' := bv (((ls.flatten.drop 246).take 16).take 0 ++ List.replicate (16 - 0) 0)) hM rfl (by simp)
      simp only [List.set_cons_zero, List.set_cons_succ] at hM
      refine c_loop (fun (k : Nat) a w' => k ≤ 16 ∧ Env a 152 [(0, u), (2, .pointer (some ⟨b2, 0, none⟩)), (3, .int .i64 0), (4, v21), (5, .pointer (some ⟨b5, 0, none⟩)), (6, .int .i64 241), (7, .int .i64 2), (8, .pointer (some ⟨b8, 0, none⟩)), (11, .int .i64 1), (12, .int .i64 ((k : Nat) : Int)), (13, .pointer (some ⟨b13, 0, none⟩)), (18, .bool false), (35, .bool false), (77, .bool true)] ∧ Mem w [] w' [blk b5 [[.int .i64 (((ls.flatten.getD 8 0).toNat : Nat) : Int)], [.int .i64 (((ls.flatten.getD 9 0).toNat : Nat) : Int)], [.bool (decide (((ls.flatten.getD 10 0).toNat : Int) = 1))], [.int .u64 ((val ((ls.flatten.drop 11).take 8) : Nat) : Int)], bv (((ls.flatten.drop 19).take 64).take 32), bv ((((ls.flatten.drop 19).take 64).drop 32).take 32), [.bool (decide (((ls.flatten.getD 83 0).toNat : Int) = 1))], [.int .u64 ((val ((ls.flatten.drop 84).take 8) : Nat) : Int)], bv (((ls.flatten.drop 92).take 64).take 32), bv ((((ls.flatten.drop 92).take 64).drop 32).take 32), [.bool (decide (((ls.flatten.getD 156 0).toNat : Int) = 1))], [.int .i64 ((val ((ls.flatten.drop 157).take 4) : Nat) : Int)], bv ((ls.flatten.drop 161).take 16), bv (((ls.flatten.drop 177).take 64).take 32), bv ((((ls.flatten.drop 177).take 64).drop 32).take 32), [.bool (decide (((ls.flatten.getD 241 0).toNat : Int) = 1))], [.int .i64 ((val ((ls.flatten.drop 242).take 4) : Nat) : Int)], bv (((ls.flatten.drop 246).take 16).take k ++ List.replicate (16 - k) 0), bv (List.replicate 32 (0 : UInt8)), bv (List.replicate 32 (0 : UInt8)), [.bool false], [.int .i64 0], bv (List.replicate 16 (0 : UInt8)), bv (List.replicate 32 (0 : UInt8)), bv (List.replicate 32 (0 : UInt8)), [.bool false], [.int .i64 0], bv (List.replicate 16 (0 : UInt8)), bv (List.replicate 32 (0 : UInt8)), bv (List.replicate 32 (0 : UInt8))] [1, 1, 1, 1, 32, 32, 1, 1, 32, 32, 1, 1, 16, 32, 32, 1, 1, 16, 32, 32, 1, 1, 16, 32, 32, 1, 1, 16, 32, 32] 39, rd v95 1 ((ls.flatten.drop 242).take 4).length (cf - 242) (bv ((ls.flatten.drop 242).take 4)), blk b13 [bv (((ls.flatten.drop 177).take 64).take 32), bv ((((ls.flatten.drop 177).take 64).drop 32).take 32)] [32, 32] 29, blk b8 [bv (((ls.flatten.drop 92).take 64).take 32), bv ((((ls.flatten.drop 92).take 64).drop 32).take 32)] [32, 32] 29, rd v21 1 ls.flatten.length cf (bv ls.flatten), blk b2 [[.int .i64 0], [.int .i64 0], [.bool false], [.int .u64 0], bv (List.replicate 32 (0 : UInt8)), bv (List.replicate 32 (0 : UInt8)), [.bool false], [.int .u64 0], bv (List.replicate 32 (0 : UInt8)), bv (List.replicate 32 (0 : UInt8)), [.bool false], [.int .i64 0], bv (List.replicate 16 (0 : UInt8)), bv (List.replicate 32 (0 : UInt8)), bv (List.replicate 32 (0 : UInt8)), [.bool false], [.int .i64 0], bv (List.replicate 16 (0 : UInt8)), bv (List.replicate 32 (0 : UInt8)), bv (List.replicate 32 (0 : UInt8)), [.bool false], [.int .i64 0], bv (List.replicate 16 (0 : UInt8)), bv (List.replicate 32 (0 : UInt8)), bv (List.replicate 32 (0 : UInt8)), [.bool false], [.int .i64 0], bv (List.replicate 16 (0 : UInt8)), bv (List.replicate 32 (0 : UInt8)), bv (List.replicate 32 (0 : UInt8))] [1, 1, 1, 1, 32, 32, 1, 1, 32, 32, 1, 1, 16, 32, 32, 1, 1, 16, 32, 32, 1, 1, 16, 32, 32, 1, 1, 16, 32, 32] 39, rd u 64 ls.length lc (ls.flatMap bv)]) (fun k => 16 - k) 0 ⟨Nat.zero_le _, hE.sel [0, 2, 3, 4, 5, 6, 7, 8, 11, 12, 13, 18, 35, 77] rfl, hM⟩ ?_
      clear hE hM a; rintro k a w31 ⟨hk, hE, hM⟩
      refine wp_seq_k (fun K47 hK47 => ?_)
      refine wp_seq_k (fun K48 hK48 => ?_)
      refine wp_plain [true, true] rfl rfl ?_
      refine s_move hE rfl rfl ?_; clear hE a; intro a hE
      refine s_bin hE rfl rfl bin_lss rfl ?_; clear hE a; intro a hE
      refine q_nil ?_
      replace hE : Env a 152 [(0, _), (2, _), (3, _), (4, _), (5, _), (6, _), (7, _), (8, _), (11, _), (12, _), (13, _), (18, _), (35, _), (77, _), (102, _)] := hE.sel [0, 2, 3, 4, 5, 6, 7, 8, 11, 12, 13, 18, 35, 77, 102] rfl
      refine hK48 _ _ ?_
      refine hE.split 102 rfl (fun hb102' hE' => ?_) (fun hb102' hE' => ?_)
      · replace hE := hE'; clear hE'
        replace hb102' := of_decide_eq_true hb102'
        replace hb102' : k < 16 := by omega
        replace hb102' : k < 16 := by omega
        refine wp_cond_true (hE.eval rfl) ?_
        refine wp_skip ?_
        refine hK47 _ _ ?_
        refine wp_seq_k (fun K49 hK49 => ?_)
        refine wp_block ?_
        refine wp_treeM hM (by kernel_rfl) (fun _ => True) (fun _ => True) (.re [(0, true), (1, true), (2, true), (3, true), (4, true), (5, true), (6, true), (7, true), (9, true), (10, true), (11, true), (8, true), (12, true), (13, false)] (.fl 11 (.weak (.fl 2 (.cut (.or 13 (.cut (.re [] (.weak (.leaf 0)))) (.stop))))))) [(0, true), (1, true), (2, true), (3, true), (4, true), (5, true), (6, true), (7, true), (9, true), (10, true), (11, true), (8, true), (12, true), (13, false)] [(4, [(6, 4), (7, 6), (8, 7), (12, 4), (13, 4)]), (6, [(7, 6), (8, 7), (12, 6), (13, 6)]), (7, [(8, 7), (12, 7), (13, 7)]), (8, [(12, 8), (13, 8)]), (9, [(10, 9), (11, 10), (12, 11), (13, 12)]), (10, [(11, 10), (12, 11), (13, 12)]), (11, [(12, 11), (13, 12)]), (12, [(13, 12)]), (13, [])] (by kernel_rfl) ?_
        intro w32 hM' hww32; clear hM; have hM := hM'; clear hM'
        refine o_re ?_
        refine o_fl rfl ?_
        refine s_move hE rfl rfl ?_; clear hE a; intro a hE
        refine s_move hE rfl rfl ?_; clear hE a; intro a hE
        refine s_move hE rfl rfl ?_; clear hE a; intro a hE
        refine s_move hE rfl rfl ?_; clear hE a; intro a hE
        refine s_bin hE rfl rfl (show Bin _ _ _ _ _ (.int .i64 246) from bin_add (by rw [wrap_i64 (by omega) (by omega)]; omega)) rfl ?_; clear hE a; intro a hE
        refine s_move hE rfl rfl ?_; clear hE a; intro a hE
        refine s_bin hE rfl rfl (show Bin _ _ _ _ _ (.int .i64 ((246 + k : Nat) : Int)) from bin_add (by rw [wrap_i64 (by omega) (by omega)]; omega)) rfl ?_; clear hE a; intro a hE
        refine s_indexRd (j := 246 + k) hE rfl (hM.get 4 rfl) rfl slt55 (by first | rfl | omega) (by omega) rfl ?_; clear hE a; intro a p112 hE hc112 hp112
        refine s_fieldAddr hE rfl fo39_2 rfl ?_; clear hE a; intro a hE
        refine s_indexArr (j := 1) hE rfl rfl arr37 rfl (by decide) rfl ?_; clear hE a; intro a hE
        refine s_fieldAddr hE rfl fo36_2 rfl ?_; clear hE a; intro a hE
        refine q_nil (q_nx ?_)
        refine o_weak (fun _ => False) (fun _ _ => trivial) ?_
        refine o_fl rfl ?_
        rw [bv_elem (by omega)] at hc112
        refine s_loadAt1 hE rfl hc112 one5 (by intro X h; cases h; simp) rfl ?_; clear hE a; intro a hE
        refine s_indexArr (j := k) hE rfl rfl arr34 (by first | rfl | omega) (by first | omega | decide) rfl ?_; clear hE a; intro a hE
        refine q_nil (q_nx ?_)
        refine o_cut (fun b => b = b5) ?_
        refine o_or rfl ?_ ?_
        · refine s_storePart8 (j := k) (g := ((ls.flatten.drop 246).take 16).take k ++ List.replicate (16 - k) 0) (c := ls.flatten.getD (246 + k) 0) 17 hE rfl (by first | rfl | omega | (simp; done) | (simp; omega)) rfl hM sz5 rfl (by have hl_ : (((ls.flatten.drop 246).take 16).take k ++ List.replicate (16 - k) 0).length = 16 := (cpy_len (by simp only [List.length_take, List.length_drop]; omega) (by omega)); first | omega | (rw [bv_length]; omega) | (simp; omega)) (by intro X h; cases h; rfl) ?_; intro w33 hM'; clear hM; have hM := hM'; clear hM'
          simp only [List.set_cons_zero, List.set_cons_succ] at hM
          refine q_nil (q_nx ?_)
          refine o_cut (fun _ => True) ?_
          refine o_re ?_
          refine o_weak (fun _ => False) (fun _ _ => trivial) ?_
          refine o_leaf rfl rfl ?_
          refine q_nil (q_ph (q_nil ?_))
          replace hE : Env a 152 [(0, _), (2, _), (3, _), (4, _), (5, _), (6, _), (7, _), (8, _), (11, _), (12, _), (13, _), (18, _), (35, _), (77, _), (102, _)] := hE.sel [0, 2, 3, 4, 5, 6, 7, 8, 11, 12, 13, 18, 35, 77, 102] rfl
          refine q_block_n ?_
          refine hK49 _ _ ?_
          refine wp_plain [true, true, true] rfl rfl ?_
          refine s_move hE rfl rfl ?_; clear hE a; intro a hE
          refine s_bin hE rfl rfl (show Bin _ _ _ _ _ (.int .i64 ((k + 1 : Nat) : Int)) from bin_add (by rw [wrap_i64 (by omega) (by omega)]; omega)) rfl ?_; clear hE a; intro a hE
          refine s_assign hE rfl rfl ?_; clear hE a; intro a hE
          refine q_nil ?_
          replace hE : Env a 152 [(0, _), (2, _), (3, _), (4, _), (5, _), (6, _), (7, _), (8, _), (11, _), (12, _), (13, _), (18, _), (35, _), (77, _), (102, _)] := hE.sel [0, 2, 3, 4, 5, 6, 7, 8, 11, 12, 13, 18, 35, 77, 102] rfl
          replace hE := hE.cast 12 rfl (show _ = Value.int .i64 (((k + 1) : Nat) : Int) from (congrArg _ (by omega)))
          replace hM := Mem.blkPart 17 (g := bv ((((ls.flatten.drop 246).take 16).take k ++ List.replicate (16 - k) 0).set k (ls.flatten.getD (246 + k) 0))) (g' := bv (((ls.flatten.drop 246).take 16).take (k + 1) ++ List.replicate (16 - (k + 1)) 0)) hM rfl (by rw [getD_dt (p := 246) (k := 16) (by omega), cpy_set (by simp only [List.length_take, List.length_drop]; omega) (by simp only [List.length_take, List.length_drop]; omega)])
          simp only [List.set_cons_zero, List.set_cons_succ] at hM
          replace hM : Mem _ _ w33 [_, _, _, _, _, _, _] := hM.pick [0, 1, 2, 3, 4, 5, 6] rfl
          exact ⟨k + 1, ⟨by omega, hE.sel [0, 2, 3, 4, 5, 6, 7, 8, 11, 12, 13, 18, 35, 77] rfl, hM⟩, by omega⟩
        trivial
      · replace hE := hE'; clear hE'
        replace hb102' := of_decide_eq_false hb102'
        replace hb102' : ¬ (k < 16) := by omega
        obtain rfl : 16 = k := by omega
        replace hM := Mem.blkPart 17 (g := bv (((ls.flatten.drop 246).take 16).take 16 ++ List.replicate (16 - 16) 0)) (g' := bv ((ls.flatten.drop 246).take 16)) hM rfl (by rw [cpy_end (by simp only [List.length_take, List.length_drop]; omega)])
        simp only [List.set_cons_zero, List.set_cons_succ] at hM
        refine wp_cond_false (hE.eval rfl) ?_
        refine wp_exit ?_
        refine q_then_e ?_
        refine q_then_e ?_
        refine q_block_x ?_
        refine hK45 _ _ ?_
        refine wp_seq_k (fun K49 hK49 => ?_)
        refine wp_plain [true, true, true, true, true, true, false, true, true, true, true, false, false, true, true] rfl rfl ?_
        refine s_move hE rfl rfl ?_; clear hE a; intro a hE
        refine s_move hE rfl rfl ?_; clear hE a; intro a hE
        refine s_bin hE rfl rfl (show Bin _ _ _ _ _ (.int .i64 262) from bin_add (by rw [wrap_i64 (by omega) (by omega)]; omega)) rfl ?_; clear hE a; intro a hE
        refine s_move hE rfl rfl ?_; clear hE a; intro a hE
        refine s_bin hE rfl rfl (show Bin _ _ _ _ _ (.int .i64 326) from bin_add (by rw [wrap_i64 (by omega) (by omega)]; omega)) rfl ?_; clear hE a; intro a hE
        have hcap124 := rd_len (hM.get 4 rfl)
        refine s_slice (l := 262) (h := 326) (mx' := cf) hE rfl (hM.get 4 rfl) slt55 ⟨_, rfl⟩ ⟨_, rfl⟩ rfl (by simp) (by have hl_ : ls.flatten.length = 512 := hl512; first | omega | assumption | (simp; done) | (simp; omega) | decide) (by have hl_ : ls.flatten.length = 512 := hl512; first | omega | assumption | (simp; done) | (simp; omega) | decide) (by have hl_ : ls.flatten.length = 512 := hl512; first | omega | assumption | (simp; done) | (simp; omega) | decide) (by have hl_ : ls.flatten.length = 512 := hl512; first | omega | assumption | (simp; done) | (simp; omega) | decide) rfl ?_; clear hE a; intro a v124 hE hr124 hvb124
        replace hr124 : (rd v124 1 ((ls.flatten.drop 262).take 64).length (cf - 262) (bv ((ls.flatten.drop 262).take 64))).holds _ := rd_mid (by first | omega | assumption | (simp; done) | (simp; omega) | decide) hr124
        replace hM := hM.addPart 4 rfl hr124 hvb124; clear hr124
        have hLb4 : (((ls.flatten.drop 262).take 64).drop 64).length = 64 - 64 := (by have hl_q : ((ls.flatten.drop 262).take 64).length = 64 := (by have hl_q : ls.flatten.length = 512 := hl512; first | (simp only [List.length_take, List.length_drop]; omega) | (simp; try omega)); first | (simp only [List.length_take, List.length_drop]; omega) | (simp; try omega))
        refine s_call hE rfl Try.call30 (rboxget_c _ ((ls.flatten.drop 262).take 64) _ _ (hM.get 0 rfl) (by have hl_0 : ((ls.flatten.drop 262).take 64).length = 64 := (by have hl_q : ls.flatten.length = 512 := hl512; first | (simp only [List.length_take, List.length_drop]; omega) | (simp; try omega)); first | omega | assumption | (simp; done) | (simp; omega) | decide) (by have hl_0 : ((ls.flatten.drop 262).take 64).length = 64 := (by have hl_q : ls.flatten.length = 512 := hl512; first | (simp only [List.length_take, List.length_drop]; omega) | (simp; try omega)); first | omega | assumption | (simp; done) | (simp; omega) | decide)) rfl ?_
        rintro e w32 ⟨v125_1, rfl, hN⟩
        refine ⟨_, rfl, trivial, ?_⟩; clear hE a; intro a hE
        replace hM : Mem _ _ w32 [_, _, _, _, _, _, _, _, _] := hM.call0 hN ⟨rfl, trivial⟩; clear hN
        refine s_move hE rfl rfl ?_; clear hE a; intro a hE
        refine s_extract hE rfl rfl rfl ?_; clear hE a; intro a hE
        refine s_extract hE rfl rfl rfl ?_; clear hE a; intro a hE
        refine s_extract hE rfl rfl rfl ?_; clear hE a; intro a hE
        refine s_alloc [32, 32] hE hM zeroL29 rfl rfl ?_; clear hE a; intro a b13 w33 hE hM'
        clear hM; have hM := hM'; clear hM'
        have hsl759_0 : (((ls.flatten.drop 262).take 64).take 32).length = 32 := (by have hl_q : ((ls.flatten.drop 262).take 64).length = 64 := (by have hl_q : ls.flatten.length = 512 := hl512; first | (simp only [List.length_take, List.length_drop]; omega) | (simp; try omega)); first | (simp only [List.length_take, List.length_drop]; omega) | (simp; try omega))
        have hsl759_1 : ((((ls.flatten.drop 262).take 64).drop 32).take 32).length = 32 := (by have hl_q : ((ls.flatten.drop 262).take 64).length = 64 := (by have hl_q : ls.flatten.length = 512 := hl512; first | (simp only [List.length_take, List.length_drop]; omega) | (simp; try omega)); first | (simp only [List.length_take, List.length_drop]; omega) | (simp; try omega))
        replace hM : Mem _ _ w33 [_, _, _, _, _, _, _, _, _] := hM.pick [0, 1, 2, 3, 4, 6, 7, 8, 9] rfl
        refine s_storeSegs 0 2 (vss := [bv (((ls.flatten.drop 262).take 64).take 32), bv ((((ls.flatten.drop 262).take 64).drop 32).take 32)]) hE rfl rfl hM rfl sz29 (by simp only [List.take_succ_cons, List.take_zero, List.drop_zero, List.drop_succ_cons]; simp only [List.map_cons, List.map_nil, bv_length, List.length_cons, List.length_nil, List.length_replicate, hsl759_0, hsl759_1]) (by decide) rfl (one_fl ⟨bv_one _, bv_one _, trivial⟩) rfl (by intro X h; cases h) ?_; intro w34 hM'; clear hM; have hM := hM'; clear hM'
        try simp only [List.take_zero, List.take_succ_cons, List.drop_zero, List.drop_succ_cons, List.take_nil, List.drop_nil, List.nil_append, List.append_nil, List.cons_append] at hM
        refine s_assign hE rfl rfl ?_; clear hE a; intro a hE
        refine s_assign hE rfl rfl ?_; clear hE a; intro a hE
        refine q_nil ?_
        replace hE : Env a 152 [(0, _), (2, _), (3, _), (4, _), (5, _), (6, _), (7, _), (8, _), (11, _), (12, _), (13, _), (18, _), (35, _), (77, _), (102, _)] := hE.sel [0, 2, 3, 4, 5, 6, 7, 8, 11, 12, 13, 18, 35, 77, 102] rfl
        refine hK49 _ _ ?_
        refine wp_seq_k (fun K50 hK50 => ?_)
        refine wp_plain [true, true, true, true, true, false] rfl rfl ?_
        refine s_move hE rfl rfl ?_; clear hE a; intro a hE
        refine s_loadN hE rfl (hM.get 0 rfl) row29 rfl (by intro X h; cases h) rfl ?_; clear hE a; intro a hE
        replace hE := hE.cast 130 rfl (show _ = Value.agg ([bv (((ls.flatten.drop 262).take 64).take 32), bv ((((ls.flatten.drop 262).take 64).drop 32).take 32)] : List (List Value)).flatten.toArray from (by first | rfl | simp only [List.flatten_cons, List.flatten_nil, List.append_nil, List.append_assoc]))
        refine s_fieldAddr hE rfl fo39_2 rfl ?_; clear hE a; intro a hE
        refine s_indexArr (j := 1) hE rfl rfl arr37 rfl (by decide) rfl ?_; clear hE a; intro a hE
        refine s_fieldAddr hE rfl fo36_3 rfl ?_; clear hE a; intro a hE
        have hsl777_0 : (((ls.flatten.drop 262).take 64).take 32).length = 32 := (by have hl_q : ((ls.flatten.drop 262).take 64).length = 64 := (by have hl_q : ls.flatten.length = 512 := hl512; first | (simp only [List.length_take, List.length_drop]; omega) | (simp; try omega)); first | (simp only [List.length_take, List.length_drop]; omega) | (simp; try omega))
        have hsl777_1 : ((((ls.flatten.drop 262).take 64).drop 32).take 32).length = 32 := (by have hl_q : ((ls.flatten.drop 262).take 64).length = 64 := (by have hl_q : ls.flatten.length = 512 := hl512; first | (simp only [List.length_take, List.length_drop]; omega) | (simp; try omega)); first | (simp only [List.length_take, List.length_drop]; omega) | (simp; try omega))
        replace hM : Mem _ _ w34 [_, _, _, _, _, _, _, _, _] := hM.pick [3, 0, 1, 2, 4, 5, 6, 7, 8] rfl
        refine s_storeSegs 18 2 (vss := [bv (((ls.flatten.drop 262).take 64).take 32), bv ((((ls.flatten.drop 262).take 64).drop 32).take 32)]) hE rfl rfl hM rfl sz29 (by simp only [List.take_succ_cons, List.take_zero, List.drop_zero, List.drop_succ_cons]; simp only [List.map_cons, List.map_nil, bv_length, List.length_cons, List.length_nil, List.length_replicate, hsl777_0, hsl777_1]) (by decide) rfl (one_fl ⟨bv_one _, bv_one _, trivial⟩) rfl (by intro X h; cases h) ?_; intro w35 hM'; clear hM; have hM := hM'; clear hM'
        try simp only [List.take_zero, List.take_succ_cons, List.drop_zero, List.drop_succ_cons, List.take_nil, List.drop_nil, List.nil_append, List.append_nil, List.cons_append] at hM
        refine q_nil ?_
        replace hE : Env a 152 [(0, _), (2, _), (3, _), (4, _), (5, _), (6, _), (7, _), (8, _), (11, _), (12, _), (13, _), (18, _), (35, _), (77, _), (102, _)] := hE.sel [0, 2, 3, 4, 5, 6, 7, 8, 11, 12, 13, 18, 35, 77, 102] rfl
        refine hK50 _ _ ?_
        refine wp_plain [true, true, true] rfl rfl ?_
        refine s_move hE rfl rfl ?_; clear hE a; intro a hE
        refine s_bin hE rfl rfl (show Bin _ _ _ _ _ (.int .i64 326) from bin_add (by rw [wrap_i64 (by omega) (by omega)]; omega)) rfl ?_; clear hE a; intro a hE
        refine s_assign hE rfl rfl ?_; clear hE a; intro a hE
        refine q_nil ?_
        replace hE : Env a 152 [(0, _), (2, _), (3, _), (4, _), (5, _), (6, _), (7, _), (8, _), (11, _), (12, _), (13, _), (18, _), (35, _), (77, _), (102, _)] := hE.sel [0, 2, 3, 4, 5, 6, 7, 8, 11, 12, 13, 18, 35, 77, 102] rfl
        refine q_block_n ?_
        refine hK42 _ _ ?_
        refine wp_plain [true, true, true] rfl rfl ?_
        refine s_move hE rfl rfl ?_; clear hE a; intro a hE
        refine s_bin hE rfl rfl (show Bin _ _ _ _ _ (.int .i64 2) from bin_add (by rw [wrap_i64 (by omega) (by omega)]; omega)) rfl ?_; clear hE a; intro a hE
        refine s_assign hE rfl rfl ?_; clear hE a; intro a hE
        refine q_nil ?_
        replace hE : Env a 152 [(0, _), (2, _), (3, _), (4, _), (5, _), (6, _), (7, _), (8, _), (11, _), (12, _), (13, _), (18, _), (35, _), (77, _), (102, _)] := hE.sel [0, 2, 3, 4, 5, 6, 7, 8, 11, 12, 13, 18, 35, 77, 102] rfl
        replace hM : Mem _ _ w35 [_, _, _, _, _, _] := hM.pick [0, 1, 5, 6, 7, 8] rfl
        refine q_then_n (c_rounds ?_)
        refine wp_seq_k (fun K51 hK51 => ?_)
        refine wp_seq_k (fun K52 hK52 => ?_)
        refine wp_plain [true, true] rfl rfl ?_
        refine s_move hE rfl rfl ?_; clear hE a; intro a hE
        refine s_bin hE rfl rfl bin_lss rfl ?_; clear hE a; intro a hE
        replace hE := hE.cast 77 rfl (show _ = Value.bool true from (congrArg Value.bool (by decide)))
        refine q_nil ?_
        replace hE : Env a 152 [(0, _), (2, _), (3, _), (4, _), (5, _), (6, _), (7, _), (8, _), (11, _), (12, _), (13, _), (18, _), (35, _), (77, _), (102, _)] := hE.sel [0, 2, 3, 4, 5, 6, 7, 8, 11, 12, 13, 18, 35, 77, 102] rfl
        refine hK52 _ _ ?_
        refine wp_cond_true (hE.eval rfl) ?_
        refine wp_skip ?_
        refine hK51 _ _ ?_
        refine wp_seq_k (fun K53 hK53 => ?_)
        refine wp_block ?_
        refine wp_seq_k (fun K54 hK54 => ?_)
        refine wp_plain [true, true, true, true, true, true, true, true, true, false] rfl rfl ?_
        refine s_move hE rfl rfl ?_; clear hE a; intro a hE
        refine s_move hE rfl rfl ?_; clear hE a; intro a hE
        refine s_move hE rfl rfl ?_; clear hE a; intro a hE
        refine s_indexRd (j := 326) hE rfl (hM.get 3 rfl) rfl slt55 (by first | rfl | omega) (by omega) rfl ?_; clear hE a; intro a p83 hE hc83 hp83
        rw [bv_elem (by omega)] at hc83
        refine s_loadAt1 hE rfl hc83 one5 (by intro X h; cases h) rfl ?_; clear hE a; intro a hE
        refine s_bin hE rfl rfl bin_eql rfl ?_; clear hE a; intro a hE
        refine s_fieldAddr hE rfl fo39_2 rfl ?_; clear hE a; intro a hE
        refine s_indexArr (j := 2) hE rfl rfl arr37 rfl (by decide) rfl ?_; clear hE a; intro a hE
        refine s_fieldAddr hE rfl fo36_0 rfl ?_; clear hE a; intro a hE
        refine s_store1 20 hE rfl rfl hM rfl rfl sz4 rfl rfl (by intro X h; cases h) ?_; intro w36 hM'; clear hM; have hM := hM'; clear hM'
        refine q_nil ?_
        replace hE : Env a 152 [(0, _), (2, _), (3, _), (4, _), (5, _), (6, _), (7, _), (8, _), (11, _), (12, _), (13, _), (18, _), (35, _), (77, _), (102, _)] := hE.sel [0, 2, 3, 4, 5, 6, 7, 8, 11, 12, 13, 18, 35, 77, 102] rfl
        refine hK54 _ _ ?_
        refine wp_seq_k (fun K55 hK55 => ?_)
        refine wp_plain [true, true, true, true, true, true, true, false, true, true, true, true, false] rfl rfl ?_
        refine s_move hE rfl rfl ?_; clear hE a; intro a hE
        refine s_move hE rfl rfl ?_; clear hE a; intro a hE
        refine s_move hE rfl rfl ?_; clear hE a; intro a hE
        refine s_bin hE rfl rfl (show Bin _ _ _ _ _ (.int .i64 327) from bin_add (by rw [wrap_i64 (by omega) (by omega)]; omega)) rfl ?_; clear hE a; intro a hE
        refine s_move hE rfl rfl ?_; clear hE a; intro a hE
        refine s_bin hE rfl rfl (show Bin _ _ _ _ _ (.int .i64 331) from bin_add (by rw [wrap_i64 (by omega) (by omega)]; omega)) rfl ?_; clear hE a; intro a hE
        have hcap95 := rd_len (hM.get 3 rfl)
        refine s_slice (l := 327) (h := 331) (mx' := cf) hE rfl (hM.get 3 rfl) slt55 ⟨_, rfl⟩ ⟨_, rfl⟩ rfl (by simp) (by have hl_ : ls.flatten.length = 512 := hl512; first | omega | assumption | (simp; done) | (simp; omega) | decide) (by have hl_ : ls.flatten.length = 512 := hl512; first | omega | assumption | (simp; done) | (simp; omega) | decide) (by have hl_ : ls.flatten.length = 512 := hl512; first | omega | assumption | (simp; done) | (simp; omega) | decide) (by have hl_ : ls.flatten.length = 512 := hl512; first | omega | assumption | (simp; done) | (simp; omega) | decide) rfl ?_; clear hE a; intro a v95 hE hr95 hvb95
        replace hr95 : (rd v95 1 ((ls.flatten.drop 327).take 4).length (cf - 327) (bv ((ls.flatten.drop 327).take 4))).holds _ := rd_mid (by first | omega | assumption | (simp; done) | (simp; omega) | decide) hr95
        replace hM := hM.addPart 3 rfl hr95 hvb95; clear hr95
        refine s_call hE rfl Try.call29 (rvalue6_c _ ((ls.flatten.drop 327).take 4) _ _ (hM.get 0 rfl) (by have hl_0 : ((ls.flatten.drop 327).take 4).length = 4 := (by have hl_q : ls.flatten.length = 512 := hl512; first | (simp only [List.length_take, List.length_drop]; omega) | (simp; try omega)); first | omega | assumption | (simp; done) | (simp; omega) | decide)) rfl ?_
        rintro e w37 ⟨rfl, hN⟩
        refine ⟨_, rfl, trivial, ?_⟩; clear hE a; intro a hE
        replace hM : Mem _ _ w37 [_, _, _, _, _, _, _] := hM.call0 hN trivial; clear hN
        refine s_conv hE rfl (cnv_int Try.underlying24 Try.underlying3 (wrap_i64 (by omega) (by omega))) rfl ?_; clear hE a; intro a hE
        refine s_fieldAddr hE rfl fo39_2 rfl ?_; clear hE a; intro a hE
        refine s_indexArr (j := 2) hE rfl rfl arr37 rfl (by decide) rfl ?_; clear hE a; intro a hE
        refine s_fieldAddr hE rfl fo36_1 rfl ?_; clear hE a; intro a hE
        replace hM : Mem _ _ w37 [_, _, _, _, _, _, _] := hM.pick [1, 0, 2, 3, 4, 5, 6] rfl
        refine s_store1 21 hE rfl rfl hM rfl rfl sz3 rfl rfl (by intro X h; cases h) ?_; intro w38 hM'; clear hM; have hM := hM'; clear hM'
        refine q_nil ?_
        replace hE : Env a 152 [(0, _), (2, _), (3, _), (4, _), (5, _), (6, _), (7, _), (8, _), (11, _), (12, _), (13, _), (18, _), (35, _), (77, _), (102, _)] := hE.sel [0, 2, 3, 4, 5, 6, 7, 8, 11, 12, 13, 18, 35, 77, 102] rfl
        refine hK55 _ _ ?_
        refine wp_seq_k (fun K56 hK56 => ?_)
        refine wp_seq_k (fun K57 hK57 => ?_)
        refine wp_plain [true] rfl rfl ?_
        refine s_assign hE rfl rfl ?_; clear hE a; intro a hE
        refine q_nil ?_
        refine hK57 _ _ ?_
        refine wp_block ?_
        replace hM := Mem.blkPart 22 (g := bv (List.replicate 16 (0 : UInt8))) (g' := bv (((ls.flatten.drop 331).take 16).take 0 ++ List.replicate (16 - 0) 0)) hM rfl (by simp)
        simp only [List.set_cons_zero, List.set_cons_succ] at hM
        refine c_loop (fun (k : Nat) a w' => k ≤ 16 ∧ Env a 152 [(0, u), (2, .pointer (some ⟨b2, 0, none⟩)), (3, .int .i64 0), (4, v21), (5, .pointer (some ⟨b5, 0, none⟩)), (6, .int .i64 326), (7, .int .i64 2), (8, .pointer (some ⟨b8, 0, none⟩)), (11, .int .i64 2), (12, .int .i64 ((k : Nat) : Int)), (13, .pointer (some ⟨b13, 0, none⟩)), (18, .bool false), (35, .bool false), (77, .bool true)] ∧ Mem w [] w' [blk b5 [[.int .i64 (((ls.flatten.getD 8 0).toNat : Nat) : Int)], [.int .i64 (((ls.flatten.getD 9 0).toNat : Nat) : Int)], [.bool (decide (((ls.flatten.getD 10 0).toNat : Int) = 1))], [.int .u64 ((val ((ls.flatten.drop 11).take 8) : Nat) : Int)], bv (((ls.flatten.drop 19).take 64).take 32), bv ((((ls.flatten.drop 19).take 64).drop 32).take 32), [.bool (decide (((ls.flatten.getD 83 0).toNat : Int) = 1))], [.int .u64 ((val ((ls.flatten.drop 84).take 8) : Nat) : Int)], bv (((ls.flatten.drop 92).take 64).take 32), bv ((((ls.flatten.drop 92).take 64).drop 32).take 32), [.bool (decide (((ls.flatten.getD 156 0).toNat : Int) = 1))], [.int .i64 ((val ((ls.flatten.drop 157).take 4) : Nat) : Int)], bv ((ls.flatten.drop 161).take 16), bv (((ls.flatten.drop 177).take 64).take 32), bv ((((ls.flatten.drop 177).take 64).drop 32).take 32), [.bool (decide (((ls.flatten.getD 241 0).toNat : Int) = 1))], [.int .i64 ((val ((ls.flatten.drop 242).take 4) : Nat) : Int)], bv ((ls.flatten.drop 246).take 16), bv (((ls.flatten.drop 262).take 64).take 32), bv ((((ls.flatten.drop 262).take 64).drop 32).take 32), [.bool (decide (((ls.flatten.getD 326 0).toNat : Int) = 1))], [.int .i64 ((val ((ls.flatten.drop 327).take 4) : Nat) : Int)], bv (((ls.flatten.drop 331).take 16).take k ++ List.replicate (16 - k) 0), bv (List.replicate 32 (0 : UInt8)), bv (List.replicate 32 (0 : UInt8)), [.bool false], [.int .i64 0], bv (List.replicate 16 (0 : UInt8)), bv (List.replicate 32 (0 : UInt8)), bv (List.replicate 32 (0 : UInt8))] [1, 1, 1, 1, 32, 32, 1, 1, 32, 32, 1, 1, 16, 32, 32, 1, 1, 16, 32, 32, 1, 1, 16, 32, 32, 1, 1, 16, 32, 32] 39, rd v95 1 ((ls.flatten.drop 327).take 4).length (cf - 327) (bv ((ls.flatten.drop 327).take 4)), blk b13 [bv (((ls.flatten.drop 262).take 64).take 32), bv ((((ls.flatten.drop 262).take 64).drop 32).take 32)] [32, 32] 29, blk b8 [bv (((ls.flatten.drop 92).take 64).take 32), bv ((((ls.flatten.drop 92).take 64).drop 32).take 32)] [32, 32] 29, rd v21 1 ls.flatten.length cf (bv ls.flatten), blk b2 [[.int .i64 0], [.int .i64 0], [.bool false], [.int .u64 0], bv (List.replicate 32 (0 : UInt8)), bv (List.replicate 32 (0 : UInt8)), [.bool false], [.int .u64 0], bv (List.replicate 32 (0 : UInt8)), bv (List.replicate 32 (0 : UInt8)), [.bool false], [.int .i64 0], bv (List.replicate 16 (0 : UInt8)), bv (List.replicate 32 (0 : UInt8)), bv (List.replicate 32 (0 : UInt8)), [.bool false], [.int .i64 0], bv (List.replicate 16 (0 : UInt8)), bv (List.replicate 32 (0 : UInt8)), bv (List.replicate 32 (0 : UInt8)), [.bool false], [.int .i64 0], bv (List.replicate 16 (0 : UInt8)), bv (List.replicate 32 (0 : UInt8)), bv (List.replicate 32 (0 : UInt8)), [.bool false], [.int .i64 0], bv (List.replicate 16 (0 : UInt8)), bv (List.replicate 32 (0 : UInt8)), bv (List.replicate 32 (0 : UInt8))] [1, 1, 1, 1, 32, 32, 1, 1, 32, 32, 1, 1, 16, 32, 32, 1, 1, 16, 32, 32, 1, 1, 16, 32, 32, 1, 1, 16, 32, 32] 39, rd u 64 ls.length lc (ls.flatMap bv)]) (fun k => 16 - k) 0 ⟨Nat.zero_le _, hE.sel [0, 2, 3, 4, 5, 6, 7, 8, 11, 12, 13, 18, 35, 77] rfl, hM⟩ ?_
        clear hE hM a; rintro k a w39 ⟨hk, hE, hM⟩
        refine wp_seq_k (fun K58 hK58 => ?_)
        refine wp_seq_k (fun K59 hK59 => ?_)
        refine wp_plain [true, true] rfl rfl ?_
        refine s_move hE rfl rfl ?_; clear hE a; intro a hE
        refine s_bin hE rfl rfl bin_lss rfl ?_; clear hE a; intro a hE
        refine q_nil ?_
        replace hE : Env a 152 [(0, _), (2, _), (3, _), (4, _), (5, _), (6, _), (7, _), (8, _), (11, _), (12, _), (13, _), (18, _), (35, _), (77, _), (102, _)] := hE.sel [0, 2, 3, 4, 5, 6, 7, 8, 11, 12, 13, 18, 35, 77, 102] rfl
        refine hK59 _ _ ?_
        refine hE.split 102 rfl (fun hb102'' hE' => ?_) (fun hb102'' hE' => ?_)
        · replace hE := hE'; clear hE'
          replace hb102'' := of_decide_eq_true hb102''
          replace hb102'' : k < 16 := by omega
          replace hb102'' : k < 16 := by omega
          refine wp_cond_true (hE.eval rfl) ?_
          refine wp_skip ?_
          refine hK58 _ _ ?_
          refine wp_seq_k (fun K60 hK60 => ?_)
          refine wp_block ?_
          refine wp_treeM hM (by kernel_rfl) (fun _ => True) (fun _ => True) (.re [(0, true), (1, true), (2, true), (3, true), (4, true), (5, true), (6, true), (7, true), (9, true), (10, true), (11, true), (8, true), (12, true), (13, false)] (.fl 11 (.weak (.fl 2 (.cut (.or 13 (.cut (.re [] (.weak (.leaf 0)))) (.stop))))))) [(0, true), (1, true), (2, true), (3, true), (4, true), (5, true), (6, true), (7, true), (9, true), (10, true), (11, true), (8, true), (12, true), (13, false)] [(4, [(6, 4), (7, 6), (8, 7), (12, 4), (13, 4)]), (6, [(7, 6), (8, 7), (12, 6), (13, 6)]), (7, [(8, 7), (12, 7), (13, 7)]), (8, [(12, 8), (13, 8)]), (9, [(10, 9), (11, 10), (12, 11), (13, 12)]), (10, [(11, 10), (12, 11), (13, 12)]), (11, [(12, 11), (13, 12)]), (12, [(13, 12)]), (13, [])] (by kernel_rfl) ?_
          intro w40 hM' hww40; clear hM; have hM := hM'; clear hM'
          refine o_re ?_
          refine o_fl rfl ?_
          refine s_move hE rfl rfl ?_; clear hE a; intro a hE
          refine s_move hE rfl rfl ?_; clear hE a; intro a hE
          refine s_move hE rfl rfl ?_; clear hE a; intro a hE
          refine s_move hE rfl rfl ?_; clear hE a; intro a hE
          refine s_bin hE rfl rfl (show Bin _ _ _ _ _ (.int .i64 331) from bin_add (by rw [wrap_i64 (by omega) (by omega)]; omega)) rfl ?_; clear hE a; intro a hE
          refine s_move hE rfl rfl ?_; clear hE a; intro a hE
          refine s_bin hE rfl rfl (show Bin _ _ _ _ _ (.int .i64 ((331 + k : Nat) : Int)) from bin_add (by rw [wrap_i64 (by omega) (by omega)]; omega)) rfl ?_; clear hE a; intro a hE
          refine s_indexRd (j := 331 + k) hE rfl (hM.get 4 rfl) rfl slt55 (by first | rfl | omega) (by omega) rfl ?_; clear hE a; intro a p112 hE hc112 hp112
          refine s_fieldAddr hE rfl fo39_2 rfl ?_; clear hE a; intro a hE
          refine s_indexArr (j := 2) hE rfl rfl arr37 rfl (by decide) rfl ?_; clear hE a; intro a hE
          refine s_fieldAddr hE rfl fo36_2 rfl ?_; clear hE a; intro a hE
          refine q_nil (q_nx ?_)
          refine o_weak (fun _ => False) (fun _ _ => trivial) ?_
          refine o_fl rfl ?_
          rw [bv_elem (by omega)] at hc112
          refine s_loadAt1 hE rfl hc112 one5 (by intro X h; cases h; simp) rfl ?_; clear hE a; intro a hE
          refine s_indexArr (j := k) hE rfl rfl arr34 (by first | rfl | omega) (by first | omega | decide) rfl ?_; clear hE a; intro a hE
          refine q_nil (q_nx ?_)
          refine o_cut (fun b => b = b5) ?_
          refine o_or rfl ?_ ?_
          · refine s_storePart8 (j := k) (g := ((ls.flatten.drop 331).take 16).take k ++ List.replicate (16 - k) 0) (c := ls.flatten.getD (331 + k) 0) 22 hE rfl (by first | rfl | omega | (simp; done) | (simp; omega)) rfl hM sz5 rfl (by have hl_ : (((ls.flatten.drop 331).take 16).take k ++ List.replicate (16 - k) 0).length = 16 := (cpy_len (by simp only [List.length_take, List.length_drop]; omega) (by omega)); first | omega | (rw [bv_length]; omega) | (simp; omega)) (by intro X h; cases h; rfl) ?_; intro w41 hM'; clear hM; have hM := hM'; clear hM'
            simp only [List.set_cons_zero, List.set_cons_succ] at hM
            refine q_nil (q_nx ?_)
            refine o_cut (fun _ => True) ?_
            refine o_re ?_
            refine o_weak (fun _ => False) (fun _ _ => trivial) ?_
            refine o_leaf rfl rfl ?_
            refine q_nil (q_ph (q_nil ?_))
            replace hE : Env a 152 [(0, _), (2, _), (3, _), (4, _), (5, _), (6, _), (7, _), (8, _), (11, _), (12, _), (13, _), (18, _), (35, _), (77, _), (102, _)] := hE.sel [0, 2, 3, 4, 5, 6, 7, 8, 11, 12, 13, 18, 35, 77, 102] rfl
            refine q_block_n ?_
            refine hK60 _ _ ?_
            refine wp_plain [true, true, true] rfl rfl ?_
            refine s_move hE rfl rfl ?_; clear hE a; intro a hE
            refine s_bin hE rfl rfl (show Bin _ _ _ _ _ (.int .i64 ((k + 1 : Nat) : Int)) from bin_add (by rw [wrap_i64 (by omega) (by omega)]; omega)) rfl ?_; clear hE a; intro a hE
            refine s_assign hE rfl rfl ?_; clear hE a; intro a hE
            refine q_nil ?_
            replace hE : Env a 152 [(0, _), (2, _), (3, _), (4, _), (5, _), (6, _), (7, _), (8, _), (11, _), (12, _), (13, _), (18, _), (35, _), (77, _), (102, _)] := hE.sel [0, 2, 3, 4, 5, 6, 7, 8, 11, 12, 13, 18, 35, 77, 102] rfl
            replace hE := hE.cast 12 rfl (show _ = Value.int .i64 (((k + 1) : Nat) : Int) from (congrArg _ (by omega)))
            replace hM := Mem.blkPart 22 (g := bv ((((ls.flatten.drop 331).take 16).take k ++ List.replicate (16 - k) 0).set k (ls.flatten.getD (331 + k) 0))) (g' := bv (((ls.flatten.drop 331).take 16).take (k + 1) ++ List.replicate (16 - (k + 1)) 0)) hM rfl (by rw [getD_dt (p := 331) (k := 16) (by omega), cpy_set (by simp only [List.length_take, List.length_drop]; omega) (by simp only [List.length_take, List.length_drop]; omega)])
            simp only [List.set_cons_zero, List.set_cons_succ] at hM
            replace hM : Mem _ _ w41 [_, _, _, _, _, _, _] := hM.pick [0, 1, 2, 3, 4, 5, 6] rfl
            exact ⟨k + 1, ⟨by omega, hE.sel [0, 2, 3, 4, 5, 6, 7, 8, 11, 12, 13, 18, 35, 77] rfl, hM⟩, by omega⟩
          trivial
        · replace hE := hE'; clear hE'
          replace hb102'' := of_decide_eq_false hb102''
          replace hb102'' : ¬ (k < 16) := by omega
          obtain rfl : 16 = k := by omega
          replace hM := Mem.blkPart 22 (g := bv (((ls.flatten.drop 331).take 16).take 16 ++ List.replicate (16 - 16) 0)) (g' := bv ((ls.flatten.drop 331).take 16)) hM rfl (by rw [cpy_end (by simp only [List.length_take, List.length_drop]; omega)])
          simp only [List.set_cons_zero, List.set_cons_succ] at hM
          refine wp_cond_false (hE.eval rfl) ?_
          refine wp_exit ?_
          refine q_then_e ?_
          refine q_then_e ?_
          refine q_block_x ?_
          refine hK56 _ _ ?_
          refine wp_seq_k (fun K60 hK60 => ?_)
          refine wp_plain [true, true, true, true, true, true, false, true, true, true, true, false, false, true, true] rfl rfl ?_
          refine s_move hE rfl rfl ?_; clear hE a; intro a hE
          refine s_move hE rfl rfl ?_; clear hE a; intro a hE
          refine s_bin hE rfl rfl (show Bin _ _ _ _ _ (.int .i64 347) from bin_add (by rw [wrap_i64 (by omega) (by omega)]; omega)) rfl ?_; clear hE a; intro a hE
          refine s_move hE rfl rfl ?_; clear hE a; intro a hE
          refine s_bin hE rfl rfl (show Bin _ _ _ _ _ (.int .i64 411) from bin_add (by rw [wrap_i64 (by omega) (by omega)]; omega)) rfl ?_; clear hE a; intro a hE
          have hcap124 := rd_len (hM.get 4 rfl)
          refine s_slice (l := 347) (h := 411) (mx' := cf) hE rfl (hM.get 4 rfl) slt55 ⟨_, rfl⟩ ⟨_, rfl⟩ rfl (by simp) (by have hl_ : ls.flatten.length = 512 := hl512; first | omega | assumption | (simp; done) | (simp; omega) | decide) (by have hl_ : ls.flatten.length = 512 := hl512; first | omega | assumption | (simp; done) | (simp; omega) | decide) (by have hl_ : ls.flatten.length = 512 := hl512; first | omega | assumption | (simp; done) | (simp; omega) | decide) (by have hl_ : ls.flatten.length = 512 := hl512; first | omega | assumption | (simp; done) | (simp; omega) | decide) rfl ?_; clear hE a; intro a v124 hE hr124 hvb124
          replace hr124 : (rd v124 1 ((ls.flatten.drop 347).take 64).length (cf - 347) (bv ((ls.flatten.drop 347).take 64))).holds _ := rd_mid (by first | omega | assumption | (simp; done) | (simp; omega) | decide) hr124
          replace hM := hM.addPart 4 rfl hr124 hvb124; clear hr124
          have hLb5 : (((ls.flatten.drop 347).take 64).drop 64).length = 64 - 64 := (by have hl_q : ((ls.flatten.drop 347).take 64).length = 64 := (by have hl_q : ls.flatten.length = 512 := hl512; first | (simp only [List.length_take, List.length_drop]; omega) | (simp; try omega)); first | (simp only [List.length_take, List.length_drop]; omega) | (simp; try omega))
          refine s_call hE rfl Try.call30 (rboxget_c _ ((ls.flatten.drop 347).take 64) _ _ (hM.get 0 rfl) (by have hl_0 : ((ls.flatten.drop 347).take 64).length = 64 := (by have hl_q : ls.flatten.length = 512 := hl512; first | (simp only [List.length_take, List.length_drop]; omega) | (simp; try omega)); first | omega | assumption | (simp; done) | (simp; omega) | decide) (by have hl_0 : ((ls.flatten.drop 347).take 64).length = 64 := (by have hl_q : ls.flatten.length = 512 := hl512; first | (simp only [List.length_take, List.length_drop]; omega) | (simp; try omega)); first | omega | assumption | (simp; done) | (simp; omega) | decide)) rfl ?_
          rintro e w40 ⟨v125_1, rfl, hN⟩
          refine ⟨_, rfl, trivial, ?_⟩; clear hE a; intro a hE
          replace hM : Mem _ _ w40 [_, _, _, _, _, _, _, _, _] := hM.call0 hN ⟨rfl, trivial⟩; clear hN
          refine s_move hE rfl rfl ?_; clear hE a; intro a hE
          refine s_extract hE rfl rfl rfl ?_; clear hE a; intro a hE
          refine s_extract hE rfl rfl rfl ?_; clear hE a; intro a hE
          refine s_extract hE rfl rfl rfl ?_; clear hE a; intro a hE
          refine s_alloc [32, 32] hE hM zeroL29 rfl rfl ?_; clear hE a; intro a b13 w41 hE hM'
          clear hM; have hM := hM'; clear hM'
          have hsl966_0 : (((ls.flatten.drop 347).take 64).take 32).length = 32 := (by have hl_q : ((ls.flatten.drop 347).take 64).length = 64 := (by have hl_q : ls.flatten.length = 512 := hl512; first | (simp only [List.length_take, List.length_drop]; omega) | (simp; try omega)); first | (simp only [List.length_take, List.length_drop]; omega) | (simp; try omega))
          have hsl966_1 : ((((ls.flatten.drop 347).take 64).drop 32).take 32).length = 32 := (by have hl_q : ((ls.flatten.drop 347).take 64).length = 64 := (by have hl_q : ls.flatten.length = 512 := hl512; first | (simp only [List.length_take, List.length_drop]; omega) | (simp; try omega)); first | (simp only [List.length_take, List.length_drop]; omega) | (simp; try omega))
          replace hM : Mem _ _ w41 [_, _, _, _, _, _, _, _, _] := hM.pick [0, 1, 2, 3, 4, 6, 7, 8, 9] rfl
          refine s_storeSegs 0 2 (vss := [bv (((ls.flatten.drop 347).take 64).take 32), bv ((((ls.flatten.drop 347).take 64).drop 32).take 32)]) hE rfl rfl hM rfl sz29 (by simp only [List.take_succ_cons, List.take_zero, List.drop_zero, List.drop_succ_cons]; simp only [List.map_cons, List.map_nil, bv_length, List.length_cons, List.length_nil, List.length_replicate, hsl966_0, hsl966_1]) (by decide) rfl (one_fl ⟨bv_one _, bv_one _, trivial⟩) rfl (by intro X h; cases h) ?_; intro w42 hM'; clear hM; have hM := hM'; clear hM'
          try simp only [List.take_zero, List.take_succ_cons, List.drop_zero, List.drop_succ_cons, List.take_nil, List.drop_nil, List.nil_append, List.append_nil, List.cons_append] at hM
          refine s_assign hE rfl rfl ?_; clear hE a; intro a hE
          refine s_assign hE rfl rfl ?_; clear hE a; intro a hE
          refine q_nil ?_
          replace hE : Env a 152 [(0, _), (2, _), (3, _), (4, _), (5, _), (6, _), (7, _), (8, _), (11, _), (12, _), (13, _), (18, _), (35, _), (77, _), (102, _)] := hE.sel [0, 2, 3, 4, 5, 6, 7, 8, 11, 12, 13, 18, 35, 77, 102] rfl
          refine hK60 _ _ ?_
          refine wp_seq_k (fun K61 hK61 => ?_)
          refine wp_plain [true, true, true, true, true, false] rfl rfl ?_
          refine s_move hE rfl rfl ?_; clear hE a; intro a hE
          refine s_loadN hE rfl (hM.get 0 rfl) row29 rfl (by intro X h; cases h) rfl ?_; clear hE a; intro a hE
          replace hE := hE.cast 130 rfl (show _ = Value.agg ([bv (((ls.flatten.drop 347).take 64).take 32), bv ((((ls.flatten.drop 347).take 64).drop 32).take 32)] : List (List Value)).flatten.toArray from (by first | rfl | simp only [List.flatten_cons, List.flatten_nil, List.append_nil, List.append_assoc]))
          refine s_fieldAddr hE rfl fo39_2 rfl ?_; clear hE a; intro a hE
          refine s_indexArr (j := 2) hE rfl rfl arr37 rfl (by decide) rfl ?_; clear hE a; intro a hE
          refine s_fieldAddr hE rfl fo36_3 rfl ?_; clear hE a; intro a hE
          have hsl984_0 : (((ls.flatten.drop 347).take 64).take 32).length = 32 := (by have hl_q : ((ls.flatten.drop 347).take 64).length = 64 := (by have hl_q : ls.flatten.length = 512 := hl512; first | (simp only [List.length_take, List.length_drop]; omega) | (simp; try omega)); first | (simp only [List.length_take, List.length_drop]; omega) | (simp; try omega))
          have hsl984_1 : ((((ls.flatten.drop 347).take 64).drop 32).take 32).length = 32 := (by have hl_q : ((ls.flatten.drop 347).take 64).length = 64 := (by have hl_q : ls.flatten.length = 512 := hl512; first | (simp only [List.length_take, List.length_drop]; omega) | (simp; try omega)); first | (simp only [List.length_take, List.length_drop]; omega) | (simp; try omega))
          replace hM : Mem _ _ w42 [_, _, _, _, _, _, _, _, _] := hM.pick [3, 0, 1, 2, 4, 5, 6, 7, 8] rfl
          refine s_storeSegs 23 2 (vss := [bv (((ls.flatten.drop 347).take 64).take 32), bv ((((ls.flatten.drop 347).take 64).drop 32).take 32)]) hE rfl rfl hM rfl sz29 (by simp only [List.take_succ_cons, List.take_zero, List.drop_zero, List.drop_succ_cons]; simp only [List.map_cons, List.map_nil, bv_length, List.length_cons, List.length_nil, List.length_replicate, hsl984_0, hsl984_1]) (by decide) rfl (one_fl ⟨bv_one _, bv_one _, trivial⟩) rfl (by intro X h; cases h) ?_; intro w43 hM'; clear hM; have hM := hM'; clear hM'
          try simp only [List.take_zero, List.take_succ_cons, List.drop_zero, List.drop_succ_cons, List.take_nil, List.drop_nil, List.nil_append, List.append_nil, List.cons_append] at hM
          refine q_nil ?_
          replace hE : Env a 152 [(0, _), (2, _), (3, _), (4, _), (5, _), (6, _), (7, _), (8, _), (11, _), (12, _), (13, _), (18, _), (35, _), (77, _), (102, _)] := hE.sel [0, 2, 3, 4, 5, 6, 7, 8, 11, 12, 13, 18, 35, 77, 102] rfl
          refine hK61 _ _ ?_
          refine wp_plain [true, true, true] rfl rfl ?_
          refine s_move hE rfl rfl ?_; clear hE a; intro a hE
          refine s_bin hE rfl rfl (show Bin _ _ _ _ _ (.int .i64 411) from bin_add (by rw [wrap_i64 (by omega) (by omega)]; omega)) rfl ?_; clear hE a; intro a hE
          refine s_assign hE rfl rfl ?_; clear hE a; intro a hE
          refine q_nil ?_
          replace hE : Env a 152 [(0, _), (2, _), (3, _), (4, _), (5, _), (6, _), (7, _), (8, _), (11, _), (12, _), (13, _), (18, _), (35, _), (77, _), (102, _)] := hE.sel [0, 2, 3, 4, 5, 6, 7, 8, 11, 12, 13, 18, 35, 77, 102] rfl
          refine q_block_n ?_
          refine hK53 _ _ ?_
          refine wp_plain [true, true, true] rfl rfl ?_
          refine s_move hE rfl rfl ?_; clear hE a; intro a hE
          refine s_bin hE rfl rfl (show Bin _ _ _ _ _ (.int .i64 3) from bin_add (by rw [wrap_i64 (by omega) (by omega)]; omega)) rfl ?_; clear hE a; intro a hE
          refine s_assign hE rfl rfl ?_; clear hE a; intro a hE
          refine q_nil ?_
          replace hE : Env a 152 [(0, _), (2, _), (3, _), (4, _), (5, _), (6, _), (7, _), (8, _), (11, _), (12, _), (13, _), (18, _), (35, _), (77, _), (102, _)] := hE.sel [0, 2, 3, 4, 5, 6, 7, 8, 11, 12, 13, 18, 35, 77, 102] rfl
          replace hM : Mem _ _ w43 [_, _, _, _, _, _] := hM.pick [0, 1, 5, 6, 7, 8] rfl
          refine q_then_n (c_rounds ?_)
          refine wp_seq_k (fun K62 hK62 => ?_)
          refine wp_seq_k (fun K63 hK63 => ?_)
          refine wp_plain [true, true] rfl rfl ?_
          refine s_move hE rfl rfl ?_; clear hE a; intro a hE
          refine s_bin hE rfl rfl bin_lss rfl ?_; clear hE a; intro a hE
          replace hE := hE.cast 77 rfl (show _ = Value.bool true from (congrArg Value.bool (by decide)))
          refine q_nil ?_
          replace hE : Env a 152 [(0, _), (2, _), (3, _), (4, _), (5, _), (6, _), (7, _), (8, _), (11, _), (12, _), (13, _), (18, _), (35, _), (77, _), (102, _)] := hE.sel [0, 2, 3, 4, 5, 6, 7, 8, 11, 12, 13, 18, 35, 77, 102] rfl
          refine hK63 _ _ ?_
          refine wp_cond_true (hE.eval rfl) ?_
          refine wp_skip ?_
          refine hK62 _ _ ?_
          refine wp_seq_k (fun K64 hK64 => ?_)
          refine wp_block ?_
          refine wp_seq_k (fun K65 hK65 => ?_)
          refine wp_plain [true, true, true, true, true, true, true, true, true, false] rfl rfl ?_
          refine s_move hE rfl rfl ?_; clear hE a; intro a hE
          refine s_move hE rfl rfl ?_; clear hE a; intro a hE
          refine s_move hE rfl rfl ?_; clear hE a; intro a hE
          refine s_indexRd (j := 411) hE rfl (hM.get 3 rfl) rfl slt55 (by first | rfl | omega) (by omega) rfl ?_; clear hE a; intro a p83 hE hc83 hp83
          rw [bv_elem (by omega)] at hc83
          refine s_loadAt1 hE rfl hc83 one5 (by intro X h; cases h) rfl ?_; clear hE a; intro a hE
          refine s_bin hE rfl rfl bin_eql rfl ?_; clear hE a; intro a hE
          refine s_fieldAddr hE rfl fo39_2 rfl ?_; clear hE a; intro a hE
          refine s_indexArr (j := 3) hE rfl rfl arr37 rfl (by decide) rfl ?_; clear hE a; intro a hE
          refine s_fieldAddr hE rfl fo36_0 rfl ?_; clear hE a; intro a hE
          refine s_store1 25 hE rfl rfl hM rfl rfl sz4 rfl rfl (by intro X h; cases h) ?_; intro w44 hM'; clear hM; have hM := hM'; clear hM'
          refine q_nil ?_
          replace hE : Env a 152 [(0, _), (2, _), (3, _), (4, _), (5, _), (6, _), (7, _), (8, _), (11, _), (12, _), (13, _), (18, _), (35, _), (77, _), (102, _)] := hE.sel [0, 2, 3, 4, 5, 6, 7, 8, 11, 12, 13, 18, 35, 77, 102] rfl
          refine hK65 _ _ ?_
          refine wp_seq_k (fun K66 hK66 => ?_)
          refine wp_plain [true, true, true, true, true, true, true, false, true, true, true, true, false] rfl rfl ?_
          refine s_move hE rfl rfl ?_; clear hE a; intro a hE
          refine s_move hE rfl rfl ?_; clear hE a; intro a hE
          refine s_move hE rfl rfl ?_; clear hE a; intro a hE
          refine s_bin hE rfl rfl (show Bin _ _ _ _ _ (.int .i64 412) from bin_add (by rw [wrap_i64 (by omega) (by omega)]; omega)) rfl ?_; clear hE a; intro a hE
          refine s_move hE rfl rfl ?_; clear hE a; intro a hE
          refine s_bin hE rfl rfl (show Bin _ _ _ _ _ (.int .i64 416) from bin_add (by rw [wrap_i64 (by omega) (by omega)]; omega)) rfl ?_; clear hE a; intro a hE
          have hcap95 := rd_len (hM.get 3 rfl)
          refine s_slice (l := 412) (h := 416) (mx' := cf) hE rfl (hM.get 3 rfl) slt55 ⟨_, rfl⟩ ⟨_, rfl⟩ rfl (by simp) (by have hl_ : ls.flatten.length = 512 := hl512; first | omega | assumption | (simp; done) | (simp; omega) | decide) (by have hl_ : ls.flatten.length = 512 := hl512; first | omega | assumption | (simp; done) | (simp; omega) | decide) (by have hl_ : ls.flatten.length = 512 := hl512; first | omega | assumption | (simp; done) | (simp; omega) | decide) (by have hl_ : ls.flatten.length = 512 := hl512; first | omega | assumption | (simp; done) | (simp; omega) | decide) rfl ?_; clear hE a; intro a v95 hE hr95 hvb95
          replace hr95 : (rd v95 1 ((ls.flatten.drop 412).take 4).length (cf - 412) (bv ((ls.flatten.drop 412).take 4))).holds _ := rd_mid (by first | omega | assumption | (simp; done) | (simp; omega) | decide) hr95
          replace hM := hM.addPart 3 rfl hr95 hvb95; clear hr95
          refine s_call hE rfl Try.call29 (rvalue6_c _ ((ls.flatten.drop 412).take 4) _ _ (hM.get 0 rfl) (by have hl_0 : ((ls.flatten.drop 412).take 4).length = 4 := (by have hl_q : ls.flatten.length = 512 := hl512; first | (simp only [List.length_take, List.length_drop]; omega) | (simp; try omega)); first | omega | assumption | (simp; done) | (simp; omega) | decide)) rfl ?_
          rintro e w45 ⟨rfl, hN⟩
          refine ⟨_, rfl, trivial, ?_⟩; clear hE a; intro a hE
          replace hM : Mem _ _ w45 [_, _, _, _, _, _, _] := hM.call0 hN trivial; clear hN
          refine s_conv hE rfl (cnv_int Try.underlying24 Try.underlying3 (wrap_i64 (by omega) (by omega))) rfl ?_; clear hE a; intro a hE
          refine s_fieldAddr hE rfl fo39_2 rfl ?_; clear hE a; intro a hE
          refine s_indexArr (j := 3) hE rfl rfl arr37 rfl (by decide) rfl ?_; clear hE a; intro a hE
          refine s_fieldAddr hE rfl fo36_1 rfl ?_; clear hE a; intro a hE
          replace hM : Mem _ _ w45 [_, _, _, _, _, _, _] := hM.pick [1, 0, 2, 3, 4, 5, 6] rfl
          refine s_store1 26 hE rfl rfl hM rfl rfl sz3 rfl rfl (by intro X h; cases h) ?_; intro w46 hM'; clear hM; have hM := hM'; clear hM'
          refine q_nil ?_
          replace hE : Env a 152 [(0, _), (2, _), (3, _), (4, _), (5, _), (6, _), (7, _), (8, _), (11, _), (12, _), (13, _), (18, _), (35, _), (77, _), (102, _)] := hE.sel [0, 2, 3, 4, 5, 6, 7, 8, 11, 12, 13, 18, 35, 77, 102] rfl
          refine hK66 _ _ ?_
          refine wp_seq_k (fun K67 hK67 => ?_)
          refine wp_seq_k (fun K68 hK68 => ?_)
          refine wp_plain [true] rfl rfl ?_
          refine s_assign hE rfl rfl ?_; clear hE a; intro a hE
          refine q_nil ?_
          refine hK68 _ _ ?_
          refine wp_block ?_
          replace hM := Mem.blkPart 27 (g := bv (List.replicate 16 (0 : UInt8))) (g' := bv (((ls.flatten.drop 416).take 16).take 0 ++ List.replicate (16 - 0) 0)) hM rfl (by simp)
          simp only [List.set_cons_zero, List.set_cons_succ] at hM
          refine c_loop (fun (k : Nat) a w' => k ≤ 16 ∧ Env a 152 [(0, u), (2, .pointer (some ⟨b2, 0, none⟩)), (3, .int .i64 0), (4, v21), (5, .pointer (some ⟨b5, 0, none⟩)), (6, .int .i64 411), (7, .int .i64 2), (8, .pointer (some ⟨b8, 0, none⟩)), (11, .int .i64 3), (12, .int .i64 ((k : Nat) : Int)), (13, .pointer (some ⟨b13, 0, none⟩)), (18, .bool false), (35, .bool false), (77, .bool true)] ∧ Mem w [] w' [blk b5 [[.int .i64 (((ls.flatten.getD 8 0).toNat : Nat) : Int)], [.int .i64 (((ls.flatten.getD 9 0).toNat : Nat) : Int)], [.bool (decide (((ls.flatten.getD 10 0).toNat : Int) = 1))], [.int .u64 ((val ((ls.flatten.drop 11).take 8) : Nat) : Int)], bv (((ls.flatten.drop 19).take 64).take 32), bv ((((ls.flatten.drop 19).take 64).drop 32).take 32), [.bool (decide (((ls.flatten.getD 83 0).toNat : Int) = 1))], [.int .u64 ((val ((ls.flatten.drop 84).take 8) : Nat) : Int)], bv (((ls.flatten.drop 92).take 64).take 32), bv ((((ls.flatten.drop 92).take 64).drop 32).take 32), [.bool (decide (((ls.flatten.getD 156 0).toNat : Int) = 1))], [.int .i64 ((val ((ls.flatten.drop 157).take 4) : Nat) : Int)], bv ((ls.flatten.drop 161).take 16), bv (((ls.flatten.drop 177).take 64).take 32), bv ((((ls.flatten.drop 177).take 64).drop 32).take 32), [.bool (decide (((ls.flatten.getD 241 0).toNat : Int) = 1))], [.int .i64 ((val ((ls.flatten.drop 242).take 4) : Nat) : Int)], bv ((ls.flatten.drop 246).take 16), bv (((ls.flatten.drop 262).take 64).take 32), bv ((((ls.flatten.drop 262).take 64).drop 32).take 32), [.bool (decide (((ls.flatten.getD 326 0).toNat : Int) = 1))], [.int .i64 ((val ((ls.flatten.drop 327).take 4) : Nat) : Int)], bv ((ls.flatten.drop 331).take 16), bv (((ls.flatten.drop 347).take 64).take 32), bv ((((ls.flatten.drop 347).take 64).drop 32).take 32), [.bool (decide (((ls.flatten.getD 411 0).toNat : Int) = 1))], [.int .i64 ((val ((ls.flatten.drop 412).take 4) : Nat) : Int)], bv (((ls.flatten.drop 416).take 16).take k ++ List.replicate (16 - k) 0), bv (List.replicate 32 (0 : UInt8)), bv (List.replicate 32 (0 : UInt8))] [1, 1, 1, 1, 32, 32, 1, 1, 32, 32, 1, 1, 16, 32, 32, 1, 1, 16, 32, 32, 1, 1, 16, 32, 32, 1, 1, 16, 32, 32] 39, rd v95 1 ((ls.flatten.drop 412).take 4).length (cf - 412) (bv ((ls.flatten.drop 412).take 4)), blk b13 [bv (((ls.flatten.drop 347).take 64).take 32), bv ((((ls.flatten.drop 347).take 64).drop 32).take 32)] [32, 32] 29, blk b8 [bv (((ls.flatten.drop 92).take 64).take 32), bv ((((ls.flatten.drop 92).take 64).drop 32).take 32)] [32, 32] 29, rd v21 1 ls.flatten.length cf (bv ls.flatten), blk b2 [[.int .i64 0], [.int .i64 0], [.bool false], [.int .u64 0], bv (List.replicate 32 (0 : UInt8)), bv (List.replicate 32 (0 : UInt8)), [.bool false], [.int .u64 0], bv (List.replicate 32 (0 : UInt8)), bv (List.replicate 32 (0 : UInt8)), [.bool false], [.int .i64 0], bv (List.replicate 16 (0 : UInt8)), bv (List.replicate 32 (0 : UInt8)), bv (List.replicate 32 (0 : UInt8)), [.bool false], [.int .i64 0], bv (List.replicate 16 (0 : UInt8)), bv (List.replicate 32 (0 : UInt8)), bv (List.replicate 32 (0 : UInt8)), [.bool false], [.int .i64 0], bv (List.replicate 16 (0 : UInt8)), bv (List.replicate 32 (0 : UInt8)), bv (List.replicate 32 (0 : UInt8)), [.bool false], [.int .i64 0], bv (List.replicate 16 (0 : UInt8)), bv (List.replicate 32 (0 : UInt8)), bv (List.replicate 32 (0 : UInt8))] [1, 1, 1, 1, 32, 32, 1, 1, 32, 32, 1, 1, 16, 32, 32, 1, 1, 16, 32, 32, 1, 1, 16, 32, 32, 1, 1, 16, 32, 32] 39, rd u 64 ls.length lc (ls.flatMap bv)]) (fun k => 16 - k) 0 ⟨Nat.zero_le _, hE.sel [0, 2, 3, 4, 5, 6, 7, 8, 11, 12, 13, 18, 35, 77] rfl, hM⟩ ?_
          clear hE hM a; rintro k a w47 ⟨hk, hE, hM⟩
          refine wp_seq_k (fun K69 hK69 => ?_)
          refine wp_seq_k (fun K70 hK70 => ?_)
          refine wp_plain [true, true] rfl rfl ?_
          refine s_move hE rfl rfl ?_; clear hE a; intro a hE
          refine s_bin hE rfl rfl bin_lss rfl ?_; clear hE a; intro a hE
          refine q_nil ?_
          replace hE : Env a 152 [(0, _), (2, _), (3, _), (4, _), (5, _), (6, _), (7, _), (8, _), (11, _), (12, _), (13, _), (18, _), (35, _), (77, _), (102, _)] := hE.sel [0, 2, 3, 4, 5, 6, 7, 8, 11, 12, 13, 18, 35, 77, 102] rfl
          refine hK70 _ _ ?_
          refine hE.split 102 rfl (fun hb102''' hE' => ?_) (fun hb102''' hE' => ?_)
          · replace hE := hE'; clear hE'
            replace hb102''' := of_decide_eq_true hb102'''
            replace hb102''' : k < 16 := by omega
            replace hb102''' : k < 16 := by omega
            refine wp_cond_true (hE.eval rfl) ?_
            refine wp_skip ?_
            refine hK69 _ _ ?_
            refine wp_seq_k (fun K71 hK71 => ?_)
            refine wp_block ?_
            refine wp_treeM hM (by kernel_rfl) (fun _ => True) (fun _ => True) (.re [(0, true), (1, true), (2, true), (3, true), (4, true), (5, true), (6, true), (7, true), (9, true), (10, true), (11, true), (8, true), (12, true), (13, false)] (.fl 11 (.weak (.fl 2 (.cut (.or 13 (.cut (.re [] (.weak (.leaf 0)))) (.stop))))))) [(0, true), (1, true), (2, true), (3, true), (4, true), (5, true), (6, true), (7, true), (9, true), (10, true), (11, true), (8, true), (12, true), (13, false)] [(4, [(6, 4), (7, 6), (8, 7), (12, 4), (13, 4)]), (6, [(7, 6), (8, 7), (12, 6), (13, 6)]), (7, [(8, 7), (12, 7), (13, 7)]), (8, [(12, 8), (13, 8)]), (9, [(10, 9), (11, 10), (12, 11), (13, 12)]), (10, [(11, 10), (12, 11), (13, 12)]), (11, [(12, 11), (13, 12)]), (12, [(13, 12)]), (13, [])] (by kernel_rfl) ?_
            intro w48 hM' hww48; clear hM; have hM := hM'; clear hM'
            refine o_re ?_
            refine o_fl rfl ?_
            refine s_move hE rfl rfl ?_; clear hE a; intro a hE
            refine s_move hE rfl rfl ?_; clear hE a; intro a hE
            refine s_move hE rfl rfl ?_; clear hE a; intro a hE
            refine s_move hE rfl rfl ?_; clear hE a; intro a hE
            refine s_bin hE rfl rfl (show Bin _ _ _ _ _ (.int .i64 416) from bin_add (by rw [wrap_i64 (by omega) (by omega)]; omega)) rfl ?_; clear hE a; intro a hE
            refine s_move hE rfl rfl ?_; clear hE a; intro a hE
            refine s_bin hE rfl rfl (show Bin _ _ _ _ _ (.int .i64 ((416 + k : Nat) : Int)) from bin_add (by rw [wrap_i64 (by omega) (by omega)]; omega)) rfl ?_; clear hE a; intro a hE
            refine s_indexRd (j := 416 + k) hE rfl (hM.get 4 rfl) rfl slt55 (by first | rfl | omega) (by omega) rfl ?_; clear hE a; intro a p112 hE hc112 hp112
            refine s_fieldAddr hE rfl fo39_2 rfl ?_; clear hE a; intro a hE
            refine s_indexArr (j := 3) hE rfl rfl arr37 rfl (by decide) rfl ?_; clear hE a; intro a hE
            refine s_fieldAddr hE rfl fo36_2 rfl ?_; clear hE a; intro a hE
            refine q_nil (q_nx ?_)
            refine o_weak (fun _ => False) (fun _ _ => trivial) ?_
            refine o_fl rfl ?_
            rw [bv_elem (by omega)] at hc112
            refine s_loadAt1 hE rfl hc112 one5 (by intro X h; cases h; simp) rfl ?_; clear hE a; intro a hE
            refine s_indexArr (j := k) hE rfl rfl arr34 (by first | rfl | omega) (by first | omega | decide) rfl ?_; clear hE a; intro a hE
            refine q_nil (q_nx ?_)
            refine o_cut (fun b => b = b5) ?_
            refine o_or rfl ?_ ?_
            · refine s_storePart8 (j := k) (g := ((ls.flatten.drop 416).take 16).take k ++ List.replicate (16 - k) 0) (c := ls.flatten.getD (416 + k) 0) 27 hE rfl (by first | rfl | omega | (simp; done) | (simp; omega)) rfl hM sz5 rfl (by have hl_ : (((ls.flatten.drop 416).take 16).take k ++ List.replicate (16 - k) 0).length = 16 := (cpy_len (by simp only [List.length_take, List.length_drop]; omega) (by omega)); first | omega | (rw [bv_length]; omega) | (simp; omega)) (by intro X h; cases h; rfl) ?_; intro w49 hM'; clear hM; have hM := hM'; clear hM'
              simp only [List.set_cons_zero, List.set_cons_succ] at hM
              refine q_nil (q_nx ?_)
              refine o_cut (fun _ => True) ?_
              refine o_re ?_
              refine o_weak (fun _ => False) (fun _ _ => trivial) ?_
              refine o_leaf rfl rfl ?_
              refine q_nil (q_ph (q_nil ?_))
              replace hE : Env a 152 [(0, _), (2, _), (3, _), (4, _), (5, _), (6, _), (7, _), (8, _), (11, _), (12, _), (13, _), (18, _), (35, _), (77, _), (102, _)] := hE.sel [0, 2, 3, 4, 5, 6, 7, 8, 11, 12, 13, 18, 35, 77, 102] rfl
              refine q_block_n ?_
              refine hK71 _ _ ?_
              refine wp_plain [true, true, true] rfl rfl ?_
              refine s_move hE rfl rfl ?_; clear hE a; intro a hE
              refine s_bin hE rfl rfl (show Bin _ _ _ _ _ (.int .i64 ((k + 1 : Nat) : Int)) from bin_add (by rw [wrap_i64 (by omega) (by omega)]; omega)) rfl ?_; clear hE a; intro a hE
              refine s_assign hE rfl rfl ?_; clear hE a; intro a hE
              refine q_nil ?_
              replace hE : Env a 152 [(0, _), (2, _), (3, _), (4, _), (5, _), (6, _), (7, _), (8, _), (11, _), (12, _), (13, _), (18, _), (35, _), (77, _), (102, _)] := hE.sel [0, 2, 3, 4, 5, 6, 7, 8, 11, 12, 13, 18, 35, 77, 102] rfl
              replace hE := hE.cast 12 rfl (show _ = Value.int .i64 (((k + 1) : Nat) : Int) from (congrArg _ (by omega)))
              replace hM := Mem.blkPart 27 (g := bv ((((ls.flatten.drop 416).take 16).take k ++ List.replicate (16 - k) 0).set k (ls.flatten.getD (416 + k) 0))) (g' := bv (((ls.flatten.drop 416).take 16).take (k + 1) ++ List.replicate (16 - (k + 1)) 0)) hM rfl (by rw [getD_dt (p := 416) (k := 16) (by omega), cpy_set (by simp only [List.length_take, List.length_drop]; omega) (by simp only [List.length_take, List.length_drop]; omega)])
              simp only [List.set_cons_zero, List.set_cons_succ] at hM
              replace hM : Mem _ _ w49 [_, _, _, _, _, _, _] := hM.pick [0, 1, 2, 3, 4, 5, 6] rfl
              exact ⟨k + 1, ⟨by omega, hE.sel [0, 2, 3, 4, 5, 6, 7, 8, 11, 12, 13, 18, 35, 77] rfl, hM⟩, by omega⟩
            trivial
          · replace hE := hE'; clear hE'
            replace hb102''' := of_decide_eq_false hb102'''
            replace hb102''' : ¬ (k < 16) := by omega
            obtain rfl : 16 = k := by omega
            replace hM := Mem.blkPart 27 (g := bv (((ls.flatten.drop 416).take 16).take 16 ++ List.replicate (16 - 16) 0)) (g' := bv ((ls.flatten.drop 416).take 16)) hM rfl (by rw [cpy_end (by simp only [List.length_take, List.length_drop]; omega)])
            simp only [List.set_cons_zero, List.set_cons_succ] at hM
            refine wp_cond_false (hE.eval rfl) ?_
            refine wp_exit ?_
            refine q_then_e ?_
            refine q_then_e ?_
            refine q_block_x ?_
            refine hK67 _ _ ?_
            refine wp_seq_k (fun K71 hK71 => ?_)
            refine wp_plain [true, true, true, true, true, true, false, true, true, true, true, false, false, true, true] rfl rfl ?_
            refine s_move hE rfl rfl ?_; clear hE a; intro a hE
            refine s_move hE rfl rfl ?_; clear hE a; intro a hE
            refine s_bin hE rfl rfl (show Bin _ _ _ _ _ (.int .i64 432) from bin_add (by rw [wrap_i64 (by omega) (by omega)]; omega)) rfl ?_; clear hE a; intro a hE
            refine s_move hE rfl rfl ?_; clear hE a; intro a hE
            refine s_bin hE rfl rfl (show Bin _ _ _ _ _ (.int .i64 496) from bin_add (by rw [wrap_i64 (by omega) (by omega)]; omega)) rfl ?_; clear hE a; intro a hE
            have hcap124 := rd_len (hM.get 4 rfl)
            refine s_slice (l := 432) (h := 496) (mx' := cf) hE rfl (hM.get 4 rfl) slt55 ⟨_, rfl⟩ ⟨_, rfl⟩ rfl (by simp) (by have hl_ : ls.flatten.length = 512 := hl512; first | omega | assumption | (simp; done) | (simp; omega) | decide) (by have hl_ : ls.flatten.length = 512 := hl512; first | omega | assumption | (simp; done) | (simp; omega) | decide) (by have hl_ : ls.flatten.length = 512 := hl512; first | omega | assumption | (simp; done) | (simp; omega) | decide) (by have hl_ : ls.flatten.length = 512 := hl512; first | omega | assumption | (simp; done) | (simp; omega) | decide) rfl ?_; clear hE a; intro a v124 hE hr124 hvb124
            replace hr124 : (rd v124 1 ((ls.flatten.drop 432).take 64).length (cf - 432) (bv ((ls.flatten.drop 432).take 64))).holds _ := rd_mid (by first | omega | assumption | (simp; done) | (simp; omega) | decide) hr124
            replace hM := hM.addPart 4 rfl hr124 hvb124; clear hr124
            have hLb6 : (((ls.flatten.drop 432).take 64).drop 64).length = 64 - 64 := (by have hl_q : ((ls.flatten.drop 432).take 64).length = 64 := (by have hl_q : ls.flatten.length = 512 := hl512; first | (simp only [List.length_take, List.length_drop]; omega) | (simp; try omega)); first | (simp only [List.length_take, List.length_drop]; omega) | (simp; try omega))
            refine s_call hE rfl Try.call30 (rboxget_c _ ((ls.flatten.drop 432).take 64) _ _ (hM.get 0 rfl) (by have hl_0 : ((ls.flatten.drop 432).take 64).length = 64 := (by have hl_q : ls.flatten.length = 512 := hl512; first | (simp only [List.length_take, List.length_drop]; omega) | (simp; try omega)); first | omega | assumption | (simp; done) | (simp; omega) | decide) (by have hl_0 : ((ls.flatten.drop 432).take 64).length = 64 := (by have hl_q : ls.flatten.length = 512 := hl512; first | (simp only [List.length_take, List.length_drop]; omega) | (simp; try omega)); first | omega | assumption | (simp; done) | (simp; omega) | decide)) rfl ?_
            rintro e w48 ⟨v125_1, rfl, hN⟩
            refine ⟨_, rfl, trivial, ?_⟩; clear hE a; intro a hE
            replace hM : Mem _ _ w48 [_, _, _, _, _, _, _, _, _] := hM.call0 hN ⟨rfl, trivial⟩; clear hN
            refine s_move hE rfl rfl ?_; clear hE a; intro a hE
            refine s_extract hE rfl rfl rfl ?_; clear hE a; intro a hE
            refine s_extract hE rfl rfl rfl ?_; clear hE a; intro a hE
            refine s_extract hE rfl rfl rfl ?_; clear hE a; intro a hE
            refine s_alloc [32, 32] hE hM zeroL29 rfl rfl ?_; clear hE a; intro a b13 w49 hE hM'
            clear hM; have hM := hM'; clear hM'
            have hsl1173_0 : (((ls.flatten.drop 432).take 64).take 32).length = 32 := (by have hl_q : ((ls.flatten.drop 432).take 64).length = 64 := (by have hl_q : ls.flatten.length = 512 := hl512; first | (simp only [List.length_take, List.length_drop]; omega) | (simp; try omega)); first | (simp only [List.length_take, List.length_drop]; omega) | (simp; try omega))
            have hsl1173_1 : ((((ls.flatten.drop 432).take 64).drop 32).take 32).length = 32 := (by have hl_q : ((ls.flatten.drop 432).take 64).length = 64 := (by have hl_q : ls.flatten.length = 512 := hl512; first | (simp only [List.length_take, List.length_drop]; omega) | (simp; try omega)); first | (simp only [List.length_take, List.length_drop]; omega) | (simp; try omega))
            replace hM : Mem _ _ w49 [_, _, _, _, _, _, _, _, _] := hM.pick [0, 1, 2, 3, 4, 6, 7, 8, 9] rfl
            refine s_storeSegs 0 2 (vss := [bv (((ls.flatten.drop 432).take 64).take 32), bv ((((ls.flatten.drop 432).take 64).drop 32).take 32)]) hE rfl rfl hM rfl sz29 (by simp only [List.take_succ_cons, List.take_zero, List.drop_zero, List.drop_succ_cons]; simp only [List.map_cons, List.map_nil, bv_length, List.length_cons, List.length_nil, List.length_replicate, hsl1173_0, hsl1173_1]) (by decide) rfl (one_fl ⟨bv_one _, bv_one _, trivial⟩) rfl (by intro X h; cases h) ?_; intro w50 hM'; clear hM; have hM := hM'; clear hM'
            try simp only [List.take_zero, List.take_succ_cons, List.drop_zero, List.drop_succ_cons, List.take_nil, List.drop_nil, List.nil_append, List.append_nil, List.cons_append] at hM
            refine s_assign hE rfl rfl ?_; clear hE a; intro a hE
            refine s_assign hE rfl rfl ?_; clear hE a; intro a hE
            refine q_nil ?_
            replace hE : Env a 152 [(0, _), (2, _), (3, _), (4, _), (5, _), (6, _), (7, _), (8, _), (11, _), (12, _), (13, _), (18, _), (35, _), (77, _), (102, _)] := hE.sel [0, 2, 3, 4, 5, 6, 7, 8, 11, 12, 13, 18, 35, 77, 102] rfl
            refine hK71 _ _ ?_
            refine wp_seq_k (fun K72 hK72 => ?_)
            refine wp_plain [true, true, true, true, true, false] rfl rfl ?_
            refine s_move hE rfl rfl ?_; clear hE a; intro a hE
            refine s_loadN hE rfl (hM.get 0 rfl) row29 rfl (by intro X h; cases h) rfl ?_; clear hE a; intro a hE
            replace hE := hE.cast 130 rfl (show _ = Value.agg ([bv (((ls.flatten.drop 432).take 64).take 32), bv ((((ls.flatten.drop 432).take 64).drop 32).take 32)] : List (List Value)).flatten.toArray from (by first | rfl | simp only [List.flatten_cons, List.flatten_nil, List.append_nil, List.append_assoc]))
            refine s_fieldAddr hE rfl fo39_2 rfl ?_; clear hE a; intro a hE
            refine s_indexArr (j := 3) hE rfl rfl arr37 rfl (by decide) rfl ?_; clear hE a; intro a hE
            refine s_fieldAddr hE rfl fo36_3 rfl ?_; clear hE a; intro a hE
            have hsl1191_0 : (((ls.flatten.drop 432).take 64).take 32).length = 32 := (by have hl_q : ((ls.flatten.drop 432).take 64).length = 64 := (by have hl_q : ls.flatten.length = 512 := hl512; first | (simp only [List.length_take, List.length_drop]; omega) | (simp; try omega)); first | (simp only [List.length_take, List.length_drop]; omega) | (simp; try omega))
            have hsl1191_1 : ((((ls.flatten.drop 432).take 64).drop 32).take 32).length = 32 := (by have hl_q : ((ls.flatten.drop 432).take 64).length = 64 := (by have hl_q : ls.flatten.length = 512 := hl512; first | (simp only [List.length_take, List.length_drop]; omega) | (simp; try omega)); first | (simp only [List.length_take, List.length_drop]; omega) | (simp; try omega))
            replace hM : Mem _ _ w50 [_, _, _, _, _, _, _, _, _] := hM.pick [3, 0, 1, 2, 4, 5, 6, 7, 8] rfl
            refine s_storeSegs 28 2 (vss := [bv (((ls.flatten.drop 432).take 64).take 32), bv ((((ls.flatten.drop 432).take 64).drop 32).take 32)]) hE rfl rfl hM rfl sz29 (by simp only [List.take_succ_cons, List.take_zero, List.drop_zero, List.drop_succ_cons]; simp only [List.map_cons, List.map_nil, bv_length, List.length_cons, List.length_nil, List.length_replicate, hsl1191_0, hsl1191_1]) (by decide) rfl (one_fl ⟨bv_one _, bv_one _, trivial⟩) rfl (by intro X h; cases h) ?_; intro w51 hM'; clear hM; have hM := hM'; clear hM'
            try simp only [List.take_zero, List.take_succ_cons, List.drop_zero, List.drop_succ_cons, List.take_nil, List.drop_nil, List.nil_append, List.append_nil, List.cons_append] at hM
            refine q_nil ?_
            replace hE : Env a 152 [(0, _), (2, _), (3, _), (4, _), (5, _), (6, _), (7, _), (8, _), (11, _), (12, _), (13, _), (18, _), (35, _), (77, _), (102, _)] := hE.sel [0, 2, 3, 4, 5, 6, 7, 8, 11, 12, 13, 18, 35, 77, 102] rfl
            refine hK72 _ _ ?_
            refine wp_plain [true, true, true] rfl rfl ?_
            refine s_move hE rfl rfl ?_; clear hE a; intro a hE
            refine s_bin hE rfl rfl (show Bin _ _ _ _ _ (.int .i64 496) from bin_add (by rw [wrap_i64 (by omega) (by omega)]; omega)) rfl ?_; clear hE a; intro a hE
            refine s_assign hE rfl rfl ?_; clear hE a; intro a hE
            refine q_nil ?_
            replace hE : Env a 152 [(0, _), (2, _), (3, _), (4, _), (5, _), (6, _), (7, _), (8, _), (11, _), (12, _), (13, _), (18, _), (35, _), (77, _), (102, _)] := hE.sel [0, 2, 3, 4, 5, 6, 7, 8, 11, 12, 13, 18, 35, 77, 102] rfl
            refine q_block_n ?_
            refine hK64 _ _ ?_
            refine wp_plain [true, true, true] rfl rfl ?_
            refine s_move hE rfl rfl ?_; clear hE a; intro a hE
            refine s_bin hE rfl rfl (show Bin _ _ _ _ _ (.int .i64 4) from bin_add (by rw [wrap_i64 (by omega) (by omega)]; omega)) rfl ?_; clear hE a; intro a hE
            refine s_assign hE rfl rfl ?_; clear hE a; intro a hE
            refine q_nil ?_
            replace hE : Env a 152 [(0, _), (2, _), (3, _), (4, _), (5, _), (6, _), (7, _), (8, _), (11, _), (12, _), (13, _), (18, _), (35, _), (77, _), (102, _)] := hE.sel [0, 2, 3, 4, 5, 6, 7, 8, 11, 12, 13, 18, 35, 77, 102] rfl
            replace hM := Mem.blkEq (ss := [[.int .i64 (((ls.flatten.getD 8 0).toNat : Nat) : Int)], [.int .i64 (((ls.flatten.getD 9 0).toNat : Nat) : Int)], [.bool (decide (((ls.flatten.getD 10 0).toNat : Int) = 1))], [.int .u64 ((val ((ls.flatten.drop 11).take 8) : Nat) : Int)], bv (((ls.flatten.drop 19).take 64).take 32), bv ((((ls.flatten.drop 19).take 64).drop 32).take 32), [.bool (decide (((ls.flatten.getD 83 0).toNat : Int) = 1))], [.int .u64 ((val ((ls.flatten.drop 84).take 8) : Nat) : Int)], bv (((ls.flatten.drop 92).take 64).take 32), bv ((((ls.flatten.drop 92).take 64).drop 32).take 32), [.bool (decide (((ls.flatten.getD 156 0).toNat : Int) = 1))], [.int .i64 ((val ((ls.flatten.drop 157).take 4) : Nat) : Int)], bv ((ls.flatten.drop 161).take 16), bv (((ls.flatten.drop 177).take 64).take 32), bv ((((ls.flatten.drop 177).take 64).drop 32).take 32), [.bool (decide (((ls.flatten.getD 241 0).toNat : Int) = 1))], [.int .i64 ((val ((ls.flatten.drop 242).take 4) : Nat) : Int)], bv ((ls.flatten.drop 246).take 16), bv (((ls.flatten.drop 262).take 64).take 32), bv ((((ls.flatten.drop 262).take 64).drop 32).take 32), [.bool (decide (((ls.flatten.getD 326 0).toNat : Int) = 1))], [.int .i64 ((val ((ls.flatten.drop 327).take 4) : Nat) : Int)], bv ((ls.flatten.drop 331).take 16), bv (((ls.flatten.drop 347).take 64).take 32), bv ((((ls.flatten.drop 347).take 64).drop 32).take 32), [.bool (decide (((ls.flatten.getD 411 0).toNat : Int) = 1))], [.int .i64 ((val ((ls.flatten.drop 412).take 4) : Nat) : Int)], bv ((ls.flatten.drop 416).take 16), bv (((ls.flatten.drop 432).take 64).take 32), bv ((((ls.flatten.drop 432).take 64).drop 32).take 32)]) (ss' := [[.int .i64 ((readH ls.flatten).m)], [.int .i64 ((readH ls.flatten).r)], [.bool ((readH ls.flatten).v0.1)], [.int .u64 (((readH ls.flatten).v0.2.1 : Nat) : Int)], bv ((readH ls.flatten).v0.2.2.1), bv ((readH ls.flatten).v0.2.2.2), [.bool ((readH ls.flatten).v1.1)], [.int .u64 (((readH ls.flatten).v1.2.1 : Nat) : Int)], bv ((readH ls.flatten).v1.2.2.1), bv ((readH ls.flatten).v1.2.2.2), [.bool ((readH ls.flatten).s0.1)], [.int .i64 ((readH ls.flatten).s0.2.1)], bv ((readH ls.flatten).s0.2.2.1), bv ((readH ls.flatten).s0.2.2.2.1), bv ((readH ls.flatten).s0.2.2.2.2), [.bool ((readH ls.flatten).s1.1)], [.int .i64 ((readH ls.flatten).s1.2.1)], bv ((readH ls.flatten).s1.2.2.1), bv ((readH ls.flatten).s1.2.2.2.1), bv ((readH ls.flatten).s1.2.2.2.2), [.bool ((readH ls.flatten).s2.1)], [.int .i64 ((readH ls.flatten).s2.2.1)], bv ((readH ls.flatten).s2.2.2.1), bv ((readH ls.flatten).s2.2.2.2.1), bv ((readH ls.flatten).s2.2.2.2.2), [.bool ((readH ls.flatten).s3.1)], [.int .i64 ((readH ls.flatten).s3.2.1)], bv ((readH ls.flatten).s3.2.2.1), bv ((readH ls.flatten).s3.2.2.2.1), bv ((readH ls.flatten).s3.2.2.2.2)]) hM (by simp only [readH, readV, readS, val_seg1 (b := ls.flatten) (i := 8) (by omega), val_seg1 (b := ls.flatten) (i := 9) (by omega), val_seg1 (b := ls.flatten) (i := 10) (by omega), val_seg1 (b := ls.flatten) (i := 83) (by omega), val_seg1 (b := ls.flatten) (i := 156) (by omega), val_seg1 (b := ls.flatten) (i := 241) (by omega), val_seg1 (b := ls.flatten) (i := 326) (by omega), val_seg1 (b := ls.flatten) (i := 411) (by omega), dec_one, box_of, box_of2 ls.flatten 19 51 rfl, box_of2 ls.flatten 92 124 rfl, box_of2 ls.flatten 177 209 rfl, box_of2 ls.flatten 262 294 rfl, box_of2 ls.flatten 347 379 rfl, box_of2 ls.flatten 432 464 rfl]; first | rfl | (simp only [seg]; done) | (simp [seg]; done))
            replace hM : Mem _ _ w51 [_, _, _, _, _, _] := hM.pick [0, 1, 5, 6, 7, 8] rfl
            refine q_then_n (c_rounds ?_)
            refine wp_seq_k (fun K73 hK73 => ?_)
            refine wp_seq_k (fun K74 hK74 => ?_)
            refine wp_plain [true, true] rfl rfl ?_
            refine s_move hE rfl rfl ?_; clear hE a; intro a hE
            refine s_bin hE rfl rfl bin_lss rfl ?_; clear hE a; intro a hE
            replace hE := hE.cast 77 rfl (show _ = Value.bool false from (congrArg Value.bool (by decide)))
            refine q_nil ?_
            replace hE : Env a 152 [(0, _), (2, _), (3, _), (4, _), (5, _), (6, _), (7, _), (8, _), (11, _), (12, _), (13, _), (18, _), (35, _), (77, _), (102, _)] := hE.sel [0, 2, 3, 4, 5, 6, 7, 8, 11, 12, 13, 18, 35, 77, 102] rfl
            refine hK74 _ _ ?_
            refine wp_cond_false (hE.eval rfl) ?_
            refine wp_exit ?_
            refine q_then_e ?_
            refine q_then_e ?_
            refine q_block_x ?_
            refine hK27 _ _ ?_
            refine wp_seq_k (fun K75 hK75 => ?_)
            refine wp_seq_k (fun K76 hK76 => ?_)
            refine wp_drawnM hM (by kernel_rfl) (fun _ => False) [(0, true), (1, false), (2, true), (3, true), (4, true), (7, true), (8, true), (5, false), (6, true), (9, true), (10, true)] [(1, [(2, 1), (3, 1), (4, 3), (7, 3), (8, 3), (5, 3), (6, 3), (9, 8), (10, 9)]), (5, [(6, 5), (9, 6), (10, 9)])] (by kernel_rfl) rfl ?_
            intro w52 hM' hww52; clear hM; have hM := hM'; clear hM'
            refine s_loadN hE rfl (hM.get 0 rfl) row39 rfl (by intro X h; cases h; simp) rfl ?_; clear hE a; intro a hE
            replace hE := hE.cast 136 rfl (show _ = Value.agg ([[.int .i64 ((readH ls.flatten).m)], [.int .i64 ((readH ls.flatten).r)], [.bool ((readH ls.flatten).v0.1)], [.int .u64 (((readH ls.flatten).v0.2.1 : Nat) : Int)], bv ((readH ls.flatten).v0.2.2.1), bv ((readH ls.flatten).v0.2.2.2), [.bool ((readH ls.flatten).v1.1)], [.int .u64 (((readH ls.flatten).v1.2.1 : Nat) : Int)], bv ((readH ls.flatten).v1.2.2.1), bv ((readH ls.flatten).v1.2.2.2), [.bool ((readH ls.flatten).s0.1)], [.int .i64 ((readH ls.flatten).s0.2.1)], bv ((readH ls.flatten).s0.2.2.1), bv ((readH ls.flatten).s0.2.2.2.1), bv ((readH ls.flatten).s0.2.2.2.2), [.bool ((readH ls.flatten).s1.1)], [.int .i64 ((readH ls.flatten).s1.2.1)], bv ((readH ls.flatten).s1.2.2.1), bv ((readH ls.flatten).s1.2.2.2.1), bv ((readH ls.flatten).s1.2.2.2.2), [.bool ((readH ls.flatten).s2.1)], [.int .i64 ((readH ls.flatten).s2.2.1)], bv ((readH ls.flatten).s2.2.2.1), bv ((readH ls.flatten).s2.2.2.2.1), bv ((readH ls.flatten).s2.2.2.2.2), [.bool ((readH ls.flatten).s3.1)], [.int .i64 ((readH ls.flatten).s3.2.1)], bv ((readH ls.flatten).s3.2.2.1), bv ((readH ls.flatten).s3.2.2.2.1), bv ((readH ls.flatten).s3.2.2.2.2)] : List (List Value)).flatten.toArray from (by first | rfl | simp only [List.flatten_cons, List.flatten_nil, List.append_nil, List.append_assoc]))
            refine s_call hE rfl Try.call25 (rshaped_c (readH ls.flatten) _ (readH_ok hl496) ) rfl ?_
            rintro e w53 ⟨rfl, hN⟩
            refine ⟨_, rfl, hN.sta0 _, ?_⟩; clear hE a; intro a hE
            replace hM : Mem _ _ w53 [_, _, _, _, _, _] := hM.call0 hN trivial; clear hN
            refine s_not hE rfl rfl ?_; clear hE a; intro a hE
            refine s_move hE rfl rfl ?_; clear hE a; intro a hE
            refine hE.split 139 rfl (fun hb139 hE' => ?_) (fun hb139 hE' => ?_)
            · replace hE := hE'; clear hE'
              replace hb139 := not_true hb139
              obtain ⟨e1, e2⟩ := getHL_bad (getOkH_sh hb139)
              refine g_no (b := true) hE rfl rfl rfl ?_; clear hE a; intro a hE
              refine g_no (b := true) hE rfl rfl rfl ?_; clear hE a; intro a hE
              refine g_no (b := true) hE rfl rfl rfl ?_; clear hE a; intro a hE
              refine g_no (b := true) hE rfl rfl rfl ?_; clear hE a; intro a hE
              refine g_no (b := true) hE rfl rfl rfl ?_; clear hE a; intro a hE
              refine g_no (b := true) hE rfl rfl rfl ?_; clear hE a; intro a hE
              refine s_pickt hE rfl rfl rfl ?_; clear hE a; intro a hE
              refine q_nil ?_
              replace hE : Env a 152 [(0, _), (2, _), (3, _), (4, _), (5, _), (6, _), (7, _), (8, _), (11, _), (12, _), (13, _), (18, _), (35, _), (77, _), (102, _), (146, _)] := hE.sel [0, 2, 3, 4, 5, 6, 7, 8, 11, 12, 13, 18, 35, 77, 102, 146] rfl
              refine hK76 _ _ ?_
              refine wp_cond_true (hE.eval rfl) ?_
              refine wp_seq_k (fun K77 hK77 => ?_)
              refine wp_plain [true, false, true] rfl rfl ?_
              refine s_buildS [] hE rfl zero39 (by kernel_rfl) fpl39 (by first | (simp [PartsOk, Value.cells]; done) | (simp [PartsOk, Value.cells]; omega)) rfl ?_; clear hE a; intro a hE
              replace hE := hE.cast 147 rfl (show _ = Value.agg ([[.int .i64 0], [.int .i64 0], [.bool false], [.int .u64 0], bv (List.replicate 32 (0 : UInt8)), bv (List.replicate 32 (0 : UInt8)), [.bool false], [.int .u64 0], bv (List.replicate 32 (0 : UInt8)), bv (List.replicate 32 (0 : UInt8)), [.bool false], [.int .i64 0], bv (List.replicate 16 (0 : UInt8)), bv (List.replicate 32 (0 : UInt8)), bv (List.replicate 32 (0 : UInt8)), [.bool false], [.int .i64 0], bv (List.replicate 16 (0 : UInt8)), bv (List.replicate 32 (0 : UInt8)), bv (List.replicate 32 (0 : UInt8)), [.bool false], [.int .i64 0], bv (List.replicate 16 (0 : UInt8)), bv (List.replicate 32 (0 : UInt8)), bv (List.replicate 32 (0 : UInt8)), [.bool false], [.int .i64 0], bv (List.replicate 16 (0 : UInt8)), bv (List.replicate 32 (0 : UInt8)), bv (List.replicate 32 (0 : UInt8))] : List (List Value)).flatten.toArray from (by first | rfl | simp [setAll] | (simp only [setAll, List.set_cons_zero, List.set_cons_succ, List.flatten_cons, List.flatten_nil, List.append_nil, List.append_assoc, List.replicate_succ, List.replicate_zero])))
              have hsl1262_4 : (List.replicate 32 (0 : UInt8)).length = 32 := List.length_replicate
              have hsl1262_5 : (List.replicate 32 (0 : UInt8)).length = 32 := List.length_replicate
              have hsl1262_8 : (List.replicate 32 (0 : UInt8)).length = 32 := List.length_replicate
              have hsl1262_9 : (List.replicate 32 (0 : UInt8)).length = 32 := List.length_replicate
              have hsl1262_12 : (List.replicate 16 (0 : UInt8)).length = 16 := List.length_replicate
              have hsl1262_13 : (List.replicate 32 (0 : UInt8)).length = 32 := List.length_replicate
              have hsl1262_14 : (List.replicate 32 (0 : UInt8)).length = 32 := List.length_replicate
              have hsl1262_17 : (List.replicate 16 (0 : UInt8)).length = 16 := List.length_replicate
              have hsl1262_18 : (List.replicate 32 (0 : UInt8)).length = 32 := List.length_replicate
              have hsl1262_19 : (List.replicate 32 (0 : UInt8)).length = 32 := List.length_replicate
              have hsl1262_22 : (List.replicate 16 (0 : UInt8)).length = 16 := List.length_replicate
              have hsl1262_23 : (List.replicate 32 (0 : UInt8)).length = 32 := List.length_replicate
              have hsl1262_24 : (List.replicate 32 (0 : UInt8)).length = 32 := List.length_replicate
              have hsl1262_27 : (List.replicate 16 (0 : UInt8)).length = 16 := List.length_replicate
              have hsl1262_28 : (List.replicate 32 (0 : UInt8)).length = 32 := List.length_replicate
              have hsl1262_29 : (List.replicate 32 (0 : UInt8)).length = 32 := List.length_replicate
              replace hM : Mem _ _ w53 [_, _, _, _, _, _] := hM.pick [4, 0, 1, 2, 3, 5] rfl
              refine s_storeSegs 0 30 (vss := [[.int .i64 0], [.int .i64 0], [.bool false], [.int .u64 0], bv (List.replicate 32 (0 : UInt8)), bv (List.replicate 32 (0 : UInt8)), [.bool false], [.int .u64 0], bv (List.replicate 32 (0 : UInt8)), bv (List.replicate 32 (0 : UInt8)), [.bool false], [.int .i64 0], bv (List.replicate 16 (0 : UInt8)), bv (List.replicate 32 (0 : UInt8)), bv (List.replicate 32 (0 : UInt8)), [.bool false], [.int .i64 0], bv (List.replicate 16 (0 : UInt8)), bv (List.replicate 32 (0 : UInt8)), bv (List.replicate 32 (0 : UInt8)), [.bool false], [.int .i64 0], bv (List.replicate 16 (0 : UInt8)), bv (List.replicate 32 (0 : UInt8)), bv (List.replicate 32 (0 : UInt8)), [.bool false], [.int .i64 0], bv (List.replicate 16 (0 : UInt8)), bv (List.replicate 32 (0 : UInt8)), bv (List.replicate 32 (0 : UInt8))]) hE rfl rfl hM rfl sz39 (by simp only [List.take_succ_cons, List.take_zero, List.drop_zero, List.drop_succ_cons]; simp only [List.map_cons, List.map_nil, bv_length, List.length_cons, List.length_nil, List.length_replicate, hsl1262_4, hsl1262_5, hsl1262_8, hsl1262_9, hsl1262_12, hsl1262_13, hsl1262_14, hsl1262_17, hsl1262_18, hsl1262_19, hsl1262_22, hsl1262_23, hsl1262_24, hsl1262_27, hsl1262_28, hsl1262_29]) (by decide) rfl (one_fl ⟨one1 rfl, one1 rfl, one1 rfl, one1 rfl, bv_one _, bv_one _, one1 rfl, one1 rfl, bv_one _, bv_one _, one1 rfl, one1 rfl, bv_one _, bv_one _, bv_one _, one1 rfl, one1 rfl, bv_one _, bv_one _, bv_one _, one1 rfl, one1 rfl, bv_one _, bv_one _, bv_one _, one1 rfl, one1 rfl, bv_one _, bv_one _, bv_one _, trivial⟩) rfl (by intro X h; cases h) ?_; intro w54 hM'; clear hM; have hM := hM'; clear hM'
              try simp only [List.take_zero, List.take_succ_cons, List.drop_zero, List.drop_succ_cons, List.take_nil, List.drop_nil, List.nil_append, List.append_nil, List.cons_append] at hM
              refine s_assign hE rfl rfl ?_; clear hE a; intro a hE
              refine q_nil ?_
              replace hE : Env a 152 [(0, _), (2, _), (3, _), (4, _), (5, _), (6, _), (7, _), (8, _), (11, _), (12, _), (13, _), (18, _), (35, _), (77, _), (102, _), (146, _)] := hE.sel [0, 2, 3, 4, 5, 6, 7, 8, 11, 12, 13, 18, 35, 77, 102, 146] rfl
              refine hK77 _ _ ?_
              refine wp_ret ?_
              refine q_then_r ?_
              refine f_ret2 hE rfl (res_cellN rfl (hM.get 0 rfl) row39 rfl) rfl ?_
              exact ⟨(by rw [e1, e2]; first | rfl | (simp [zH, zV, zS]; done)), hM.pick [] rfl⟩
            · replace hE := hE'; clear hE'
              replace hb139 := not_false' hb139
              refine g_yes hE rfl rfl ?_
              refine s_loadN hE rfl (hM.get 0 rfl) row39 rfl (by intro X h; cases h; simp) rfl ?_; clear hE a; intro a hE
              replace hE := hE.cast 140 rfl (show _ = Value.agg ([[.int .i64 ((readH ls.flatten).m)], [.int .i64 ((readH ls.flatten).r)], [.bool ((readH ls.flatten).v0.1)], [.int .u64 (((readH ls.flatten).v0.2.1 : Nat) : Int)], bv ((readH ls.flatten).v0.2.2.1), bv ((readH ls.flatten).v0.2.2.2), [.bool ((readH ls.flatten).v1.1)], [.int .u64 (((readH ls.flatten).v1.2.1 : Nat) : Int)], bv ((readH ls.flatten).v1.2.2.1), bv ((readH ls.flatten).v1.2.2.2), [.bool ((readH ls.flatten).s0.1)], [.int .i64 ((readH ls.flatten).s0.2.1)], bv ((readH ls.flatten).s0.2.2.1), bv ((readH ls.flatten).s0.2.2.2.1), bv ((readH ls.flatten).s0.2.2.2.2), [.bool ((readH ls.flatten).s1.1)], [.int .i64 ((readH ls.flatten).s1.2.1)], bv ((readH ls.flatten).s1.2.2.1), bv ((readH ls.flatten).s1.2.2.2.1), bv ((readH ls.flatten).s1.2.2.2.2), [.bool ((readH ls.flatten).s2.1)], [.int .i64 ((readH ls.flatten).s2.2.1)], bv ((readH ls.flatten).s2.2.2.1), bv ((readH ls.flatten).s2.2.2.2.1), bv ((readH ls.flatten).s2.2.2.2.2), [.bool ((readH ls.flatten).s3.1)], [.int .i64 ((readH ls.flatten).s3.2.1)], bv ((readH ls.flatten).s3.2.2.1), bv ((readH ls.flatten).s3.2.2.2.1), bv ((readH ls.flatten).s3.2.2.2.2)] : List (List Value)).flatten.toArray from (by first | rfl | simp only [List.flatten_cons, List.flatten_nil, List.append_nil, List.append_assoc]))
              refine g_yes hE rfl rfl ?_
              refine s_move hE rfl rfl ?_; clear hE a; intro a hE
              refine g_yes hE rfl rfl ?_
              refine s_toStr hE rfl Try.underlying55 Try.underlying5 Try.underlying9 (hM.get 3 rfl) (by intro X h; cases h; simp) rfl ?_; clear hE a; intro a hE
              refine g_yes hE rfl rfl ?_
              refine s_call hE rfl Try.call22 (rlay_c (readH ls.flatten) _ (readH_ok hl496) (by assumption) (readH_it hl496)) rfl ?_
              rintro e w54 ⟨v141, rfl, hN⟩
              refine ⟨_, rfl, hN.sta0 _, ?_⟩; clear hE a; intro a hE
              replace hM : Mem _ _ w54 [_, _, _, _, _, _, _] := hM.call0 hN ⟨rfl, trivial⟩; clear hN
              refine g_yes hE rfl rfl ?_
              obtain ⟨cs142, hs142⟩ := own_rd (hM.get 0 rfl)
              refine s_toStr hE rfl Try.underlying55 Try.underlying5 Try.underlying9 hs142 (by intro X h; cases h; simp) rfl ?_; clear hE a; intro a hE
              refine g_yes hE rfl rfl ?_
              refine s_bin hE rfl rfl bins_str.2 rfl ?_; clear hE a; intro a hE
              refine s_pickf hE rfl rfl rfl ?_; clear hE a; intro a hE
              refine q_nil ?_
              replace hE : Env a 152 [(0, _), (2, _), (3, _), (4, _), (5, _), (6, _), (7, _), (8, _), (11, _), (12, _), (13, _), (18, _), (35, _), (77, _), (102, _), (146, _)] := hE.sel [0, 2, 3, 4, 5, 6, 7, 8, 11, 12, 13, 18, 35, 77, 102, 146] rfl
              refine hK76 _ _ ?_
              refine hE.split 146 rfl (fun hb146 hE' => ?_) (fun hb146 hE' => ?_)
              · replace hE := hE'; clear hE'
                replace hb146 := of_decide_eq_false (not_true hb146)
                obtain ⟨e1, e2⟩ := getHL_bad (getOkH_pd hb146)
                refine wp_cond_true (hE.eval rfl) ?_
                refine wp_seq_k (fun K77 hK77 => ?_)
                refine wp_plain [true, false, true] rfl rfl ?_
                refine s_buildS [] hE rfl zero39 (by kernel_rfl) fpl39 (by first | (simp [PartsOk, Value.cells]; done) | (simp [PartsOk, Value.cells]; omega)) rfl ?_; clear hE a; intro a hE
                replace hE := hE.cast 147 rfl (show _ = Value.agg ([[.int .i64 0], [.int .i64 0], [.bool false], [.int .u64 0], bv (List.replicate 32 (0 : UInt8)), bv (List.replicate 32 (0 : UInt8)), [.bool false], [.int .u64 0], bv (List.replicate 32 (0 : UInt8)), bv (List.replicate 32 (0 : UInt8)), [.bool false], [.int .i64 0], bv (List.replicate 16 (0 : UInt8)), bv (List.replicate 32 (0 : UInt8)), bv (List.replicate 32 (0 : UInt8)), [.bool false], [.int .i64 0], bv (List.replicate 16 (0 : UInt8)), bv (List.replicate 32 (0 : UInt8)), bv (List.replicate 32 (0 : UInt8)), [.bool false], [.int .i64 0], bv (List.replicate 16 (0 : UInt8)), bv (List.replicate 32 (0 : UInt8)), bv (List.replicate 32 (0 : UInt8)), [.bool false], [.int .i64 0], bv (List.replicate 16 (0 : UInt8)), bv (List.replicate 32 (0 : UInt8)), bv (List.replicate 32 (0 : UInt8))] : List (List Value)).flatten.toArray from (by first | rfl | simp [setAll] | (simp only [setAll, List.set_cons_zero, List.set_cons_succ, List.flatten_cons, List.flatten_nil, List.append_nil, List.append_assoc, List.replicate_succ, List.replicate_zero])))
                have hsl1321_4 : (List.replicate 32 (0 : UInt8)).length = 32 := List.length_replicate
                have hsl1321_5 : (List.replicate 32 (0 : UInt8)).length = 32 := List.length_replicate
                have hsl1321_8 : (List.replicate 32 (0 : UInt8)).length = 32 := List.length_replicate
                have hsl1321_9 : (List.replicate 32 (0 : UInt8)).length = 32 := List.length_replicate
                have hsl1321_12 : (List.replicate 16 (0 : UInt8)).length = 16 := List.length_replicate
                have hsl1321_13 : (List.replicate 32 (0 : UInt8)).length = 32 := List.length_replicate
                have hsl1321_14 : (List.replicate 32 (0 : UInt8)).length = 32 := List.length_replicate
                have hsl1321_17 : (List.replicate 16 (0 : UInt8)).length = 16 := List.length_replicate
                have hsl1321_18 : (List.replicate 32 (0 : UInt8)).length = 32 := List.length_replicate
                have hsl1321_19 : (List.replicate 32 (0 : UInt8)).length = 32 := List.length_replicate
                have hsl1321_22 : (List.replicate 16 (0 : UInt8)).length = 16 := List.length_replicate
                have hsl1321_23 : (List.replicate 32 (0 : UInt8)).length = 32 := List.length_replicate
                have hsl1321_24 : (List.replicate 32 (0 : UInt8)).length = 32 := List.length_replicate
                have hsl1321_27 : (List.replicate 16 (0 : UInt8)).length = 16 := List.length_replicate
                have hsl1321_28 : (List.replicate 32 (0 : UInt8)).length = 32 := List.length_replicate
                have hsl1321_29 : (List.replicate 32 (0 : UInt8)).length = 32 := List.length_replicate
                replace hM : Mem _ _ w54 [_, _, _, _, _, _, _] := hM.pick [5, 0, 1, 2, 3, 4, 6] rfl
                refine s_storeSegs 0 30 (vss := [[.int .i64 0], [.int .i64 0], [.bool false], [.int .u64 0], bv (List.replicate 32 (0 : UInt8)), bv (List.replicate 32 (0 : UInt8)), [.bool false], [.int .u64 0], bv (List.replicate 32 (0 : UInt8)), bv (List.replicate 32 (0 : UInt8)), [.bool false], [.int .i64 0], bv (List.replicate 16 (0 : UInt8)), bv (List.replicate 32 (0 : UInt8)), bv (List.replicate 32 (0 : UInt8)), [.bool false], [.int .i64 0], bv (List.replicate 16 (0 : UInt8)), bv (List.replicate 32 (0 : UInt8)), bv (List.replicate 32 (0 : UInt8)), [.bool false], [.int .i64 0], bv (List.replicate 16 (0 : UInt8)), bv (List.replicate 32 (0 : UInt8)), bv (List.replicate 32 (0 : UInt8)), [.bool false], [.int .i64 0], bv (List.replicate 16 (0 : UInt8)), bv (List.replicate 32 (0 : UInt8)), bv (List.replicate 32 (0 : UInt8))]) hE rfl rfl hM rfl sz39 (by simp only [List.take_succ_cons, List.take_zero, List.drop_zero, List.drop_succ_cons]; simp only [List.map_cons, List.map_nil, bv_length, List.length_cons, List.length_nil, List.length_replicate, hsl1321_4, hsl1321_5, hsl1321_8, hsl1321_9, hsl1321_12, hsl1321_13, hsl1321_14, hsl1321_17, hsl1321_18, hsl1321_19, hsl1321_22, hsl1321_23, hsl1321_24, hsl1321_27, hsl1321_28, hsl1321_29]) (by decide) rfl (one_fl ⟨one1 rfl, one1 rfl, one1 rfl, one1 rfl, bv_one _, bv_one _, one1 rfl, one1 rfl, bv_one _, bv_one _, one1 rfl, one1 rfl, bv_one _, bv_one _, bv_one _, one1 rfl, one1 rfl, bv_one _, bv_one _, bv_one _, one1 rfl, one1 rfl, bv_one _, bv_one _, bv_one _, one1 rfl, one1 rfl, bv_one _, bv_one _, bv_one _, trivial⟩) rfl (by intro X h; cases h) ?_; intro w55 hM'; clear hM; have hM := hM'; clear hM'
                try simp only [List.take_zero, List.take_succ_cons, List.drop_zero, List.drop_succ_cons, List.take_nil, List.drop_nil, List.nil_append, List.append_nil, List.cons_append] at hM
                refine s_assign hE rfl rfl ?_; clear hE a; intro a hE
                refine q_nil ?_
                replace hE : Env a 152 [(0, _), (2, _), (3, _), (4, _), (5, _), (6, _), (7, _), (8, _), (11, _), (12, _), (13, _), (18, _), (35, _), (77, _), (102, _), (146, _)] := hE.sel [0, 2, 3, 4, 5, 6, 7, 8, 11, 12, 13, 18, 35, 77, 102, 146] rfl
                refine hK77 _ _ ?_
                refine wp_ret ?_
                refine q_then_r ?_
                refine f_ret2 hE rfl (res_cellN rfl (hM.get 0 rfl) row39 rfl) rfl ?_
                exact ⟨(by rw [e1, e2]; first | rfl | (simp [zH, zV, zS]; done)), hM.pick [] rfl⟩
              · replace hE := hE'; clear hE'
                replace hb146 := of_decide_eq_true (not_false' hb146)
                have hg := getOkH_all hl8 hb139 hb146
                refine wp_cond_false (hE.eval rfl) ?_
                refine wp_skip ?_
                refine hK75 _ _ ?_
                refine wp_seq_k (fun K77 hK77 => ?_)
                refine wp_seq_k (fun K78 hK78 => ?_)
                refine wp_plain [true, false] rfl rfl ?_
                refine s_loadN hE rfl (hM.get 1 rfl) row39 rfl (by intro X h; cases h) rfl ?_; clear hE a; intro a hE
                replace hE := hE.cast 148 rfl (show _ = Value.agg ([[.int .i64 ((readH ls.flatten).m)], [.int .i64 ((readH ls.flatten).r)], [.bool ((readH ls.flatten).v0.1)], [.int .u64 (((readH ls.flatten).v0.2.1 : Nat) : Int)], bv ((readH ls.flatten).v0.2.2.1), bv ((readH ls.flatten).v0.2.2.2), [.bool ((readH ls.flatten).v1.1)], [.int .u64 (((readH ls.flatten).v1.2.1 : Nat) : Int)], bv ((readH ls.flatten).v1.2.2.1), bv ((readH ls.flatten).v1.2.2.2), [.bool ((readH ls.flatten).s0.1)], [.int .i64 ((readH ls.flatten).s0.2.1)], bv ((readH ls.flatten).s0.2.2.1), bv ((readH ls.flatten).s0.2.2.2.1), bv ((readH ls.flatten).s0.2.2.2.2), [.bool ((readH ls.flatten).s1.1)], [.int .i64 ((readH ls.flatten).s1.2.1)], bv ((readH ls.flatten).s1.2.2.1), bv ((readH ls.flatten).s1.2.2.2.1), bv ((readH ls.flatten).s1.2.2.2.2), [.bool ((readH ls.flatten).s2.1)], [.int .i64 ((readH ls.flatten).s2.2.1)], bv ((readH ls.flatten).s2.2.2.1), bv ((readH ls.flatten).s2.2.2.2.1), bv ((readH ls.flatten).s2.2.2.2.2), [.bool ((readH ls.flatten).s3.1)], [.int .i64 ((readH ls.flatten).s3.2.1)], bv ((readH ls.flatten).s3.2.2.1), bv ((readH ls.flatten).s3.2.2.2.1), bv ((readH ls.flatten).s3.2.2.2.2)] : List (List Value)).flatten.toArray from (by first | rfl | simp only [List.flatten_cons, List.flatten_nil, List.append_nil, List.append_assoc]))
                refine s_call hE rfl Try.call26 (rlong_c (readH ls.flatten) _ (readH_ok hl496) ) rfl ?_
                rintro e w55 ⟨rfl, hN⟩
                refine ⟨_, rfl, trivial, ?_⟩; clear hE a; intro a hE
                replace hM : Mem _ _ w55 [_, _, _, _, _, _, _] := hM.call0 hN trivial; clear hN
                refine q_nil ?_
                replace hE : Env a 152 [(0, _), (2, _), (3, _), (4, _), (5, _), (6, _), (7, _), (8, _), (11, _), (12, _), (13, _), (18, _), (35, _), (77, _), (102, _), (146, _), (149, _)] := hE.sel [0, 2, 3, 4, 5, 6, 7, 8, 11, 12, 13, 18, 35, 77, 102, 146, 149] rfl
                refine hK78 _ _ ?_
                refine hE.split 149 rfl (fun hb149 hE' => ?_) (fun hb149 hE' => ?_)
                · replace hE := hE'; clear hE'
                  obtain ⟨e1, e2⟩ := getHL_long hg hb149
                  refine wp_cond_true (hE.eval rfl) ?_
                  refine wp_seq_k (fun K79 hK79 => ?_)
                  refine wp_plain [true, false, true] rfl rfl ?_
                  refine s_buildS [] hE rfl zero39 (by kernel_rfl) fpl39 (by first | (simp [PartsOk, Value.cells]; done) | (simp [PartsOk, Value.cells]; omega)) rfl ?_; clear hE a; intro a hE
                  replace hE := hE.cast 150 rfl (show _ = Value.agg ([[.int .i64 0], [.int .i64 0], [.bool false], [.int .u64 0], bv (List.replicate 32 (0 : UInt8)), bv (List.replicate 32 (0 : UInt8)), [.bool false], [.int .u64 0], bv (List.replicate 32 (0 : UInt8)), bv (List.replicate 32 (0 : UInt8)), [.bool false], [.int .i64 0], bv (List.replicate 16 (0 : UInt8)), bv (List.replicate 32 (0 : UInt8)), bv (List.replicate 32 (0 : UInt8)), [.bool false], [.int .i64 0], bv (List.replicate 16 (0 : UInt8)), bv (List.replicate 32 (0 : UInt8)), bv (List.replicate 32 (0 : UInt8)), [.bool false], [.int .i64 0], bv (List.replicate 16 (0 : UInt8)), bv (List.replicate 32 (0 : UInt8)), bv (List.replicate 32 (0 : UInt8)), [.bool false], [.int .i64 0], bv (List.replicate 16 (0 : UInt8)), bv (List.replicate 32 (0 : UInt8)), bv (List.replicate 32 (0 : UInt8))] : List (List Value)).flatten.toArray from (by first | rfl | simp [setAll] | (simp only [setAll, List.set_cons_zero, List.set_cons_succ, List.flatten_cons, List.flatten_nil, List.append_nil, List.append_assoc, List.replicate_succ, List.replicate_zero])))
                  have hsl1374_4 : (List.replicate 32 (0 : UInt8)).length = 32 := List.length_replicate
                  have hsl1374_5 : (List.replicate 32 (0 : UInt8)).length = 32 := List.length_replicate
                  have hsl1374_8 : (List.replicate 32 (0 : UInt8)).length = 32 := List.length_replicate
                  have hsl1374_9 : (List.replicate 32 (0 : UInt8)).length = 32 := List.length_replicate
                  have hsl1374_12 : (List.replicate 16 (0 : UInt8)).length = 16 := List.length_replicate
                  have hsl1374_13 : (List.replicate 32 (0 : UInt8)).length = 32 := List.length_replicate
                  have hsl1374_14 : (List.replicate 32 (0 : UInt8)).length = 32 := List.length_replicate
                  have hsl1374_17 : (List.replicate 16 (0 : UInt8)).length = 16 := List.length_replicate
                  have hsl1374_18 : (List.replicate 32 (0 : UInt8)).length = 32 := List.length_replicate
                  have hsl1374_19 : (List.replicate 32 (0 : UInt8)).length = 32 := List.length_replicate
                  have hsl1374_22 : (List.replicate 16 (0 : UInt8)).length = 16 := List.length_replicate
                  have hsl1374_23 : (List.replicate 32 (0 : UInt8)).length = 32 := List.length_replicate
                  have hsl1374_24 : (List.replicate 32 (0 : UInt8)).length = 32 := List.length_replicate
                  have hsl1374_27 : (List.replicate 16 (0 : UInt8)).length = 16 := List.length_replicate
                  have hsl1374_28 : (List.replicate 32 (0 : UInt8)).length = 32 := List.length_replicate
                  have hsl1374_29 : (List.replicate 32 (0 : UInt8)).length = 32 := List.length_replicate
                  replace hM : Mem _ _ w55 [_, _, _, _, _, _, _] := hM.pick [5, 0, 1, 2, 3, 4, 6] rfl
                  refine s_storeSegs 0 30 (vss := [[.int .i64 0], [.int .i64 0], [.bool false], [.int .u64 0], bv (List.replicate 32 (0 : UInt8)), bv (List.replicate 32 (0 : UInt8)), [.bool false], [.int .u64 0], bv (List.replicate 32 (0 : UInt8)), bv (List.replicate 32 (0 : UInt8)), [.bool false], [.int .i64 0], bv (List.replicate 16 (0 : UInt8)), bv (List.replicate 32 (0 : UInt8)), bv (List.replicate 32 (0 : UInt8)), [.bool false], [.int .i64 0], bv (List.replicate 16 (0 : UInt8)), bv (List.replicate 32 (0 : UInt8)), bv (List.replicate 32 (0 : UInt8)), [.bool false], [.int .i64 0], bv (List.replicate 16 (0 : UInt8)), bv (List.replicate 32 (0 : UInt8)), bv (List.replicate 32 (0 : UInt8)), [.bool false], [.int .i64 0], bv (List.replicate 16 (0 : UInt8)), bv (List.replicate 32 (0 : UInt8)), bv (List.replicate 32 (0 : UInt8))]) hE rfl rfl hM rfl sz39 (by simp only [List.take_succ_cons, List.take_zero, List.drop_zero, List.drop_succ_cons]; simp only [List.map_cons, List.map_nil, bv_length, List.length_cons, List.length_nil, List.length_replicate, hsl1374_4, hsl1374_5, hsl1374_8, hsl1374_9, hsl1374_12, hsl1374_13, hsl1374_14, hsl1374_17, hsl1374_18, hsl1374_19, hsl1374_22, hsl1374_23, hsl1374_24, hsl1374_27, hsl1374_28, hsl1374_29]) (by decide) rfl (one_fl ⟨one1 rfl, one1 rfl, one1 rfl, one1 rfl, bv_one _, bv_one _, one1 rfl, one1 rfl, bv_one _, bv_one _, one1 rfl, one1 rfl, bv_one _, bv_one _, bv_one _, one1 rfl, one1 rfl, bv_one _, bv_one _, bv_one _, one1 rfl, one1 rfl, bv_one _, bv_one _, bv_one _, one1 rfl, one1 rfl, bv_one _, bv_one _, bv_one _, trivial⟩) rfl (by intro X h; cases h) ?_; intro w56 hM'; clear hM; have hM := hM'; clear hM'
                  try simp only [List.take_zero, List.take_succ_cons, List.drop_zero, List.drop_succ_cons, List.take_nil, List.drop_nil, List.nil_append, List.append_nil, List.cons_append] at hM
                  refine s_assign hE rfl rfl ?_; clear hE a; intro a hE
                  refine q_nil ?_
                  replace hE : Env a 152 [(0, _), (2, _), (3, _), (4, _), (5, _), (6, _), (7, _), (8, _), (11, _), (12, _), (13, _), (18, _), (35, _), (77, _), (102, _), (146, _), (149, _)] := hE.sel [0, 2, 3, 4, 5, 6, 7, 8, 11, 12, 13, 18, 35, 77, 102, 146, 149] rfl
                  refine hK79 _ _ ?_
                  refine wp_ret ?_
                  refine q_then_r ?_
                  refine f_ret2 hE rfl (res_cellN rfl (hM.get 0 rfl) row39 rfl) rfl ?_
                  exact ⟨(by rw [e1, e2]; first | rfl | (simp [zH, zV, zS]; done)), hM.pick [] rfl⟩
                · replace hE := hE'; clear hE'
                  obtain ⟨e1, e2⟩ := getHL_ok hg hb149
                  refine wp_cond_false (hE.eval rfl) ?_
                  refine wp_skip ?_
                  refine hK77 _ _ ?_
                  refine wp_seq_k (fun K79 hK79 => ?_)
                  refine wp_plain [true, false, true] rfl rfl ?_
                  refine s_loadN hE rfl (hM.get 1 rfl) row39 rfl (by intro X h; cases h) rfl ?_; clear hE a; intro a hE
                  replace hE := hE.cast 151 rfl (show _ = Value.agg ([[.int .i64 ((readH ls.flatten).m)], [.int .i64 ((readH ls.flatten).r)], [.bool ((readH ls.flatten).v0.1)], [.int .u64 (((readH ls.flatten).v0.2.1 : Nat) : Int)], bv ((readH ls.flatten).v0.2.2.1), bv ((readH ls.flatten).v0.2.2.2), [.bool ((readH ls.flatten).v1.1)], [.int .u64 (((readH ls.flatten).v1.2.1 : Nat) : Int)], bv ((readH ls.flatten).v1.2.2.1), bv ((readH ls.flatten).v1.2.2.2), [.bool ((readH ls.flatten).s0.1)], [.int .i64 ((readH ls.flatten).s0.2.1)], bv ((readH ls.flatten).s0.2.2.1), bv ((readH ls.flatten).s0.2.2.2.1), bv ((readH ls.flatten).s0.2.2.2.2), [.bool ((readH ls.flatten).s1.1)], [.int .i64 ((readH ls.flatten).s1.2.1)], bv ((readH ls.flatten).s1.2.2.1), bv ((readH ls.flatten).s1.2.2.2.1), bv ((readH ls.flatten).s1.2.2.2.2), [.bool ((readH ls.flatten).s2.1)], [.int .i64 ((readH ls.flatten).s2.2.1)], bv ((readH ls.flatten).s2.2.2.1), bv ((readH ls.flatten).s2.2.2.2.1), bv ((readH ls.flatten).s2.2.2.2.2), [.bool ((readH ls.flatten).s3.1)], [.int .i64 ((readH ls.flatten).s3.2.1)], bv ((readH ls.flatten).s3.2.2.1), bv ((readH ls.flatten).s3.2.2.2.1), bv ((readH ls.flatten).s3.2.2.2.2)] : List (List Value)).flatten.toArray from (by first | rfl | simp only [List.flatten_cons, List.flatten_nil, List.append_nil, List.append_assoc]))
                  have hsl1410_4 : ((readH ls.flatten).v0.2.2.1).length = 32 := (readH_ok hl496).v0.2.1
                  have hsl1410_5 : ((readH ls.flatten).v0.2.2.2).length = 32 := (readH_ok hl496).v0.2.2
                  have hsl1410_8 : ((readH ls.flatten).v1.2.2.1).length = 32 := (readH_ok hl496).v1.2.1
                  have hsl1410_9 : ((readH ls.flatten).v1.2.2.2).length = 32 := (readH_ok hl496).v1.2.2
                  have hsl1410_12 : ((readH ls.flatten).s0.2.2.1).length = 16 := (readH_ok hl496).s0.2.1
                  have hsl1410_13 : ((readH ls.flatten).s0.2.2.2.1).length = 32 := (readH_ok hl496).s0.2.2.1
                  have hsl1410_14 : ((readH ls.flatten).s0.2.2.2.2).length = 32 := (readH_ok hl496).s0.2.2.2
                  have hsl1410_17 : ((readH ls.flatten).s1.2.2.1).length = 16 := (readH_ok hl496).s1.2.1
                  have hsl1410_18 : ((readH ls.flatten).s1.2.2.2.1).length = 32 := (readH_ok hl496).s1.2.2.1
                  have hsl1410_19 : ((readH ls.flatten).s1.2.2.2.2).length = 32 := (readH_ok hl496).s1.2.2.2
                  have hsl1410_22 : ((readH ls.flatten).s2.2.2.1).length = 16 := (readH_ok hl496).s2.2.1
                  have hsl1410_23 : ((readH ls.flatten).s2.2.2.2.1).length = 32 := (readH_ok hl496).s2.2.2.1
                  have hsl1410_24 : ((readH ls.flatten).s2.2.2.2.2).length = 32 := (readH_ok hl496).s2.2.2.2
                  have hsl1410_27 : ((readH ls.flatten).s3.2.2.1).length = 16 := (readH_ok hl496).s3.2.1
                  have hsl1410_28 : ((readH ls.flatten).s3.2.2.2.1).length = 32 := (readH_ok hl496).s3.2.2.1
                  have hsl1410_29 : ((readH ls.flatten).s3.2.2.2.2).length = 32 := (readH_ok hl496).s3.2.2.2
                  replace hM : Mem _ _ w55 [_, _, _, _, _, _, _] := hM.pick [5, 0, 1, 2, 3, 4, 6] rfl
                  refine s_storeSegs 0 30 (vss := [[.int .i64 ((readH ls.flatten).m)], [.int .i64 ((readH ls.flatten).r)], [.bool ((readH ls.flatten).v0.1)], [.int .u64 (((readH ls.flatten).v0.2.1 : Nat) : Int)], bv ((readH ls.flatten).v0.2.2.1), bv ((readH ls.flatten).v0.2.2.2), [.bool ((readH ls.flatten).v1.1)], [.int .u64 (((readH ls.flatten).v1.2.1 : Nat) : Int)], bv ((readH ls.flatten).v1.2.2.1), bv ((readH ls.flatten).v1.2.2.2), [.bool ((readH ls.flatten).s0.1)], [.int .i64 ((readH ls.flatten).s0.2.1)], bv ((readH ls.flatten).s0.2.2.1), bv ((readH ls.flatten).s0.2.2.2.1), bv ((readH ls.flatten).s0.2.2.2.2), [.bool ((readH ls.flatten).s1.1)], [.int .i64 ((readH ls.flatten).s1.2.1)], bv ((readH ls.flatten).s1.2.2.1), bv ((readH ls.flatten).s1.2.2.2.1), bv ((readH ls.flatten).s1.2.2.2.2), [.bool ((readH ls.flatten).s2.1)], [.int .i64 ((readH ls.flatten).s2.2.1)], bv ((readH ls.flatten).s2.2.2.1), bv ((readH ls.flatten).s2.2.2.2.1), bv ((readH ls.flatten).s2.2.2.2.2), [.bool ((readH ls.flatten).s3.1)], [.int .i64 ((readH ls.flatten).s3.2.1)], bv ((readH ls.flatten).s3.2.2.1), bv ((readH ls.flatten).s3.2.2.2.1), bv ((readH ls.flatten).s3.2.2.2.2)]) hE rfl rfl hM rfl sz39 (by simp only [List.take_succ_cons, List.take_zero, List.drop_zero, List.drop_succ_cons]; simp only [List.map_cons, List.map_nil, bv_length, List.length_cons, List.length_nil, List.length_replicate, hsl1410_4, hsl1410_5, hsl1410_8, hsl1410_9, hsl1410_12, hsl1410_13, hsl1410_14, hsl1410_17, hsl1410_18, hsl1410_19, hsl1410_22, hsl1410_23, hsl1410_24, hsl1410_27, hsl1410_28, hsl1410_29]) (by decide) rfl (one_fl ⟨one1 rfl, one1 rfl, one1 rfl, one1 rfl, bv_one _, bv_one _, one1 rfl, one1 rfl, bv_one _, bv_one _, one1 rfl, one1 rfl, bv_one _, bv_one _, bv_one _, one1 rfl, one1 rfl, bv_one _, bv_one _, bv_one _, one1 rfl, one1 rfl, bv_one _, bv_one _, bv_one _, one1 rfl, one1 rfl, bv_one _, bv_one _, bv_one _, trivial⟩) rfl (by intro X h; cases h) ?_; intro w56 hM'; clear hM; have hM := hM'; clear hM'
                  try simp only [List.take_zero, List.take_succ_cons, List.drop_zero, List.drop_succ_cons, List.take_nil, List.drop_nil, List.nil_append, List.append_nil, List.cons_append] at hM
                  refine s_assign hE rfl rfl ?_; clear hE a; intro a hE
                  refine q_nil ?_
                  replace hE : Env a 152 [(0, _), (2, _), (3, _), (4, _), (5, _), (6, _), (7, _), (8, _), (11, _), (12, _), (13, _), (18, _), (35, _), (77, _), (102, _), (146, _), (149, _)] := hE.sel [0, 2, 3, 4, 5, 6, 7, 8, 11, 12, 13, 18, 35, 77, 102, 146, 149] rfl
                  refine hK79 _ _ ?_
                  refine wp_ret ?_
                  refine f_ret2 hE rfl (res_cellN rfl (hM.get 0 rfl) row39 rfl) rfl ?_
                  exact ⟨(by rw [e1, e2]; first | rfl | (simp [zH, zV, zS]; done)), hM.pick [] rfl⟩
end Go.Proofs.Ytamjaacddbecaaa
