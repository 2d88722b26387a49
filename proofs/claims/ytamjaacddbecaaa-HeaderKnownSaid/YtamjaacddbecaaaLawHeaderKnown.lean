/- HeaderKnown of casematelaw24 returns true. No condition. -/
import Derived.Test.YtamjaacddbecaaaLl
set_option linter.unusedSimpArgs false
set_option linter.unusedVariables false
namespace Go.Proofs.Ytamjaacddbecaaa
open Go Go.Kx
open Go.ChangeShapes Go.WideShapes Go.ChangeAt Go.RowKit
theorem sz3 : (Try.prog.info? 3).map (·.size) = some 1 := by kernel_rfl
theorem sz5 : (Try.prog.info? 5).map (·.size) = some 1 := by kernel_rfl
def threeH : Hd := ⟨3, 1, zV, zV, zS, zS, zS, zS⟩
theorem threeH_ok : OkHd threeH := ⟨by unfold In64; decide, by unfold In64; decide, zH_ok.v0, zH_ok.v1, ⟨by unfold In64; decide, List.length_replicate, List.length_replicate, List.length_replicate⟩, ⟨by unfold In64; decide, List.length_replicate, List.length_replicate, List.length_replicate⟩, ⟨by unfold In64; decide, List.length_replicate, List.length_replicate, List.length_replicate⟩, ⟨by unfold In64; decide, List.length_replicate, List.length_replicate, List.length_replicate⟩⟩
def oneH : Hd := ⟨4, 1, zV, zV, zS, zS, (false, 1, List.replicate 16 0, List.replicate 32 0, List.replicate 32 0), zS⟩
theorem oneH_ok : OkHd oneH := ⟨by unfold In64; decide, by unfold In64; decide, zH_ok.v0, zH_ok.v1, ⟨by unfold In64; decide, List.length_replicate, List.length_replicate, List.length_replicate⟩, ⟨by unfold In64; decide, List.length_replicate, List.length_replicate, List.length_replicate⟩, ⟨by unfold In64; decide, List.length_replicate, List.length_replicate, List.length_replicate⟩, ⟨by unfold In64; decide, List.length_replicate, List.length_replicate, List.length_replicate⟩⟩
def noneH : Hd := ⟨4, 1, zV, zV, (true, 0, List.replicate 16 0, List.replicate 32 0, List.replicate 32 0), zS, zS, zS⟩
theorem noneH_ok : OkHd noneH := ⟨by unfold In64; decide, by unfold In64; decide, zH_ok.v0, zH_ok.v1, ⟨by unfold In64; decide, List.length_replicate, List.length_replicate, List.length_replicate⟩, ⟨by unfold In64; decide, List.length_replicate, List.length_replicate, List.length_replicate⟩, ⟨by unfold In64; decide, List.length_replicate, List.length_replicate, List.length_replicate⟩, ⟨by unfold In64; decide, List.length_replicate, List.length_replicate, List.length_replicate⟩⟩
def manyH : Hd := ⟨4, 1, zV, zV, zS, zS, zS, (true, 4097, List.replicate 16 0, List.replicate 32 0, List.replicate 32 0)⟩
theorem manyH_ok : OkHd manyH := ⟨by unfold In64; decide, by unfold In64; decide, zH_ok.v0, zH_ok.v1, ⟨by unfold In64; decide, List.length_replicate, List.length_replicate, List.length_replicate⟩, ⟨by unfold In64; decide, List.length_replicate, List.length_replicate, List.length_replicate⟩, ⟨by unfold In64; decide, List.length_replicate, List.length_replicate, List.length_replicate⟩, ⟨by unfold In64; decide, List.length_replicate, List.length_replicate, List.length_replicate⟩⟩
def mostH : Hd := ⟨4, 1, zV, zV, zS, zS, zS, (true, 4096, List.replicate 16 0, List.replicate 32 0, List.replicate 32 0)⟩
theorem mostH_ok : OkHd mostH := ⟨by unfold In64; decide, by unfold In64; decide, zH_ok.v0, zH_ok.v1, ⟨by unfold In64; decide, List.length_replicate, List.length_replicate, List.length_replicate⟩, ⟨by unfold In64; decide, List.length_replicate, List.length_replicate, List.length_replicate⟩, ⟨by unfold In64; decide, List.length_replicate, List.length_replicate, List.length_replicate⟩, ⟨by unfold In64; decide, List.length_replicate, List.length_replicate, List.length_replicate⟩⟩
set_option maxRecDepth 20000 in
set_option maxHeartbeats 2000000 in
theorem headerKnown_c  (w : World)  : Calls Try.prog 6 #[] w fun e w' => e = .returned (.bool true) ∧ Mem w [] w' [] := by
  have hM := Mem.start0 w
  refine f_enter 170 Try.func6 rfl rfl rfl ?_
  intro a hE
  replace hE : Env a 170 [] := hE
  refine wp_seq_k (fun K1 hK1 => ?_)
  refine wp_plain [true] rfl rfl ?_
  refine s_assign hE rfl rfl ?_; clear hE a; intro a hE
  refine q_nil ?_
  refine hK1 _ _ ?_
  refine wp_seq_k (fun K2 hK2 => ?_)
  refine wp_plain [false, false, true, true, true, true, true] rfl rfl ?_
  refine s_call hE rfl Try.call18 (plain24_c  _ ) rfl ?_
  rintro e w1 ⟨rfl, hN⟩
  refine ⟨_, rfl, trivial, ?_⟩; clear hE a; intro a hE
  replace hM : Mem _ _ w1 [] := hM.call0 hN trivial; clear hN
  refine s_call hE rfl Try.call8 (hput_a plainH _ plainH_ok ) rfl ?_
  rintro e w2 ⟨v29_0, rfl, hN⟩
  refine ⟨_, rfl, trivial, ?_⟩; clear hE a; intro a hE
  replace hM : Mem _ _ w2 [_] := hM.call0 hN ⟨rfl, trivial⟩; clear hN
  refine s_move hE rfl rfl ?_; clear hE a; intro a hE
  refine s_extract hE rfl rfl rfl ?_; clear hE a; intro a hE
  refine s_extract hE rfl rfl rfl ?_; clear hE a; intro a hE
  refine s_assign hE rfl rfl ?_; clear hE a; intro a hE
  refine s_assign hE rfl rfl ?_; clear hE a; intro a hE
  refine q_nil ?_
  replace hE : Env a 170 [(0, _), (1, _), (2, _)] := hE.sel [0, 1, 2] rfl
  refine hK2 _ _ ?_
  refine wp_seq_k (fun K3 hK3 => ?_)
  refine wp_plain [true, false, true] rfl rfl ?_
  refine s_move hE rfl rfl ?_; clear hE a; intro a hE
  obtain ⟨cq1, hq1⟩ := own_rd (hM.get 0 rfl)
  refine s_call hE rfl Try.call16 (hbytes_c _ (putH plainH) _ _ hq1 (putH_ok plainH_ok) (by decide +kernel)) rfl ?_
  rintro e w3 ⟨v33, rfl, hN⟩
  refine ⟨_, rfl, trivial, ?_⟩; clear hE a; intro a hE
  replace hM : Mem _ _ w3 [_, _] := hM.call0 hN ⟨rfl, trivial⟩; clear hN
  refine s_assign hE rfl rfl ?_; clear hE a; intro a hE
  refine q_nil ?_
  replace hE : Env a 170 [(0, _), (1, _), (2, _), (3, _)] := hE.sel [0, 1, 2, 3] rfl
  refine hK3 _ _ ?_
  refine wp_seq_k (fun K4 hK4 => ?_)
  refine wp_seq_k (fun K5 hK5 => ?_)
  refine wp_plain [true, true, true, true, true, true, true, true] rfl rfl ?_
  refine s_move hE rfl rfl ?_; clear hE a; intro a hE
  refine s_len hE rfl Try.underlying40 (own_slice (hM.get 1 rfl)) rfl ?_; clear hE a; intro a hE
  refine s_bin hE rfl rfl bin_neq rfl ?_; clear hE a; intro a hE
  refine s_move hE rfl rfl ?_; clear hE a; intro a hE
  replace hE := hE.cast 37 rfl (show _ = Value.bool false from (congrArg Value.bool (by first | (with_reducible exact decide_eq_true rfl) | decide +kernel | (simp; done))))
  refine g_yes hE rfl rfl ?_
  refine s_move hE rfl rfl ?_; clear hE a; intro a hE
  refine g_yes hE rfl rfl ?_
  refine s_len hE rfl Try.underlying55 (own_slice (hM.get 0 rfl)) rfl ?_; clear hE a; intro a hE
  refine g_yes hE rfl rfl ?_
  refine s_bin hE rfl rfl bin_neq rfl ?_; clear hE a; intro a hE
  refine s_pickf hE rfl rfl rfl ?_; clear hE a; intro a hE
  refine q_nil ?_
  replace hE : Env a 170 [(0, _), (1, _), (2, _), (3, _), (41, _)] := hE.sel [0, 1, 2, 3, 41] rfl
  refine hK5 _ _ ?_
  replace hE := hE.cast 41 rfl (show _ = Value.bool false from (congrArg Value.bool (by first | (with_reducible exact decide_eq_true rfl) | decide +kernel | (simp; done))))
  refine wp_cond_false (hE.eval rfl) ?_
  refine wp_skip ?_
  refine hK4 _ _ ?_
  refine wp_seq_k (fun K6 hK6 => ?_)
  refine wp_plain [false, false, false, false, false, false, false, false, false, false, false, false] rfl rfl ?_
  refine s_call hE rfl Try.call18 (plain24_c  _ ) rfl ?_
  rintro e w4 ⟨rfl, hN⟩
  refine ⟨_, rfl, trivial, ?_⟩; clear hE a; intro a hE
  replace hM : Mem _ _ w4 [_, _] := hM.call0 hN trivial; clear hN
  refine s_call hE rfl Try.call18 (plain24_c  _ ) rfl ?_
  rintro e w5 ⟨rfl, hN⟩
  refine ⟨_, rfl, trivial, ?_⟩; clear hE a; intro a hE
  replace hM : Mem _ _ w5 [_, _] := hM.call0 hN trivial; clear hN
  refine s_call hE rfl Try.call18 (plain24_c  _ ) rfl ?_
  rintro e w6 ⟨rfl, hN⟩
  refine ⟨_, rfl, trivial, ?_⟩; clear hE a; intro a hE
  replace hM : Mem _ _ w6 [_, _] := hM.call0 hN trivial; clear hN
  refine s_call hE rfl Try.call18 (plain24_c  _ ) rfl ?_
  rintro e w7 ⟨rfl, hN⟩
  refine ⟨_, rfl, trivial, ?_⟩; clear hE a; intro a hE
  replace hM : Mem _ _ w7 [_, _] := hM.call0 hN trivial; clear hN
  refine s_alloc [1, 1, 1, 1, 32, 32, 1, 1, 32, 32, 1, 1, 16, 32, 32, 1, 1, 16, 32, 32, 1, 1, 16, 32, 32, 1, 1, 16, 32, 32] hE hM zeroL39 rfl rfl ?_; clear hE a; intro a b4 w8 hE hM'
  clear hM; have hM := hM'; clear hM'
  refine s_alloc [1, 1, 1, 1, 32, 32, 1, 1, 32, 32, 1, 1, 16, 32, 32, 1, 1, 16, 32, 32, 1, 1, 16, 32, 32, 1, 1, 16, 32, 32] hE hM zeroL39 rfl rfl ?_; clear hE a; intro a b5 w9 hE hM'
  clear hM; have hM := hM'; clear hM'
  refine s_alloc [1, 1, 1, 1, 32, 32, 1, 1, 32, 32, 1, 1, 16, 32, 32, 1, 1, 16, 32, 32, 1, 1, 16, 32, 32, 1, 1, 16, 32, 32] hE hM zeroL39 rfl rfl ?_; clear hE a; intro a b6 w10 hE hM'
  clear hM; have hM := hM'; clear hM'
  refine s_alloc [1, 1, 1, 1, 32, 32, 1, 1, 32, 32, 1, 1, 16, 32, 32, 1, 1, 16, 32, 32, 1, 1, 16, 32, 32, 1, 1, 16, 32, 32] hE hM zeroL39 rfl rfl ?_; clear hE a; intro a b7 w11 hE hM'
  clear hM; have hM := hM'; clear hM'
  have hsl87_4 : plainH.v0.2.2.1.length = 32 := plainH_ok.v0.2.1
  have hsl87_5 : plainH.v0.2.2.2.length = 32 := plainH_ok.v0.2.2
  have hsl87_8 : plainH.v1.2.2.1.length = 32 := plainH_ok.v1.2.1
  have hsl87_9 : plainH.v1.2.2.2.length = 32 := plainH_ok.v1.2.2
  have hsl87_12 : plainH.s0.2.2.1.length = 16 := plainH_ok.s0.2.1
  have hsl87_13 : plainH.s0.2.2.2.1.length = 32 := plainH_ok.s0.2.2.1
  have hsl87_14 : plainH.s0.2.2.2.2.length = 32 := plainH_ok.s0.2.2.2
  have hsl87_17 : plainH.s1.2.2.1.length = 16 := plainH_ok.s1.2.1
  have hsl87_18 : plainH.s1.2.2.2.1.length = 32 := plainH_ok.s1.2.2.1
  have hsl87_19 : plainH.s1.2.2.2.2.length = 32 := plainH_ok.s1.2.2.2
  have hsl87_22 : plainH.s2.2.2.1.length = 16 := plainH_ok.s2.2.1
  have hsl87_23 : plainH.s2.2.2.2.1.length = 32 := plainH_ok.s2.2.2.1
  have hsl87_24 : plainH.s2.2.2.2.2.length = 32 := plainH_ok.s2.2.2.2
  have hsl87_27 : plainH.s3.2.2.1.length = 16 := plainH_ok.s3.2.1
  have hsl87_28 : plainH.s3.2.2.2.1.length = 32 := plainH_ok.s3.2.2.1
  have hsl87_29 : plainH.s3.2.2.2.2.length = 32 := plainH_ok.s3.2.2.2
  replace hM : Mem _ _ w11 [_, _, _, _, _, _] := hM.pick [3, 0, 1, 2, 4, 5] rfl
  refine s_storeSegs 0 30 (vss := [[.int .i64 plainH.m], [.int .i64 plainH.r], [.bool plainH.v0.1], [.int .u64 ((plainH.v0.2.1 : Nat) : Int)], bv plainH.v0.2.2.1, bv plainH.v0.2.2.2, [.bool plainH.v1.1], [.int .u64 ((plainH.v1.2.1 : Nat) : Int)], bv plainH.v1.2.2.1, bv plainH.v1.2.2.2, [.bool plainH.s0.1], [.int .i64 plainH.s0.2.1], bv plainH.s0.2.2.1, bv plainH.s0.2.2.2.1, bv plainH.s0.2.2.2.2, [.bool plainH.s1.1], [.int .i64 plainH.s1.2.1], bv plainH.s1.2.2.1, bv plainH.s1.2.2.2.1, bv plainH.s1.2.2.2.2, [.bool plainH.s2.1], [.int .i64 plainH.s2.2.1], bv plainH.s2.2.2.1, bv plainH.s2.2.2.2.1, bv plainH.s2.2.2.2.2, [.bool plainH.s3.1], [.int .i64 plainH.s3.2.1], bv plainH.s3.2.2.1, bv plainH.s3.2.2.2.1, bv plainH.s3.2.2.2.2]) hE rfl rfl hM rfl sz39 (by simp only [List.take_succ_cons, List.take_zero, List.drop_zero, List.drop_succ_cons]; simp only [List.map_cons, List.map_nil, bv_length, List.length_cons, List.length_nil, List.length_replicate, hsl87_4, hsl87_5, hsl87_8, hsl87_9, hsl87_12, hsl87_13, hsl87_14, hsl87_17, hsl87_18, hsl87_19, hsl87_22, hsl87_23, hsl87_24, hsl87_27, hsl87_28, hsl87_29]) (by decide) rfl (one_fl ⟨one1 rfl, one1 rfl, one1 rfl, one1 rfl, bv_one _, bv_one _, one1 rfl, one1 rfl, bv_one _, bv_one _, one1 rfl, one1 rfl, bv_one _, bv_one _, bv_one _, one1 rfl, one1 rfl, bv_one _, bv_one _, bv_one _, one1 rfl, one1 rfl, bv_one _, bv_one _, bv_one _, one1 rfl, one1 rfl, bv_one _, bv_one _, bv_one _, trivial⟩) rfl (by intro X h; cases h) ?_; intro w12 hM'; clear hM; have hM := hM'; clear hM'
  try simp only [List.take_zero, List.take_succ_cons, List.drop_zero, List.drop_succ_cons, List.take_nil, List.drop_nil, List.nil_append, List.append_nil, List.cons_append] at hM
  have hsl106_4 : plainH.v0.2.2.1.length = 32 := plainH_ok.v0.2.1
  have hsl106_5 : plainH.v0.2.2.2.length = 32 := plainH_ok.v0.2.2
  have hsl106_8 : plainH.v1.2.2.1.length = 32 := plainH_ok.v1.2.1
  have hsl106_9 : plainH.v1.2.2.2.length = 32 := plainH_ok.v1.2.2
  have hsl106_12 : plainH.s0.2.2.1.length = 16 := plainH_ok.s0.2.1
  have hsl106_13 : plainH.s0.2.2.2.1.length = 32 := plainH_ok.s0.2.2.1
  have hsl106_14 : plainH.s0.2.2.2.2.length = 32 := plainH_ok.s0.2.2.2
  have hsl106_17 : plainH.s1.2.2.1.length = 16 := plainH_ok.s1.2.1
  have hsl106_18 : plainH.s1.2.2.2.1.length = 32 := plainH_ok.s1.2.2.1
  have hsl106_19 : plainH.s1.2.2.2.2.length = 32 := plainH_ok.s1.2.2.2
  have hsl106_22 : plainH.s2.2.2.1.length = 16 := plainH_ok.s2.2.1
  have hsl106_23 : plainH.s2.2.2.2.1.length = 32 := plainH_ok.s2.2.2.1
  have hsl106_24 : plainH.s2.2.2.2.2.length = 32 := plainH_ok.s2.2.2.2
  have hsl106_27 : plainH.s3.2.2.1.length = 16 := plainH_ok.s3.2.1
  have hsl106_28 : plainH.s3.2.2.2.1.length = 32 := plainH_ok.s3.2.2.1
  have hsl106_29 : plainH.s3.2.2.2.2.length = 32 := plainH_ok.s3.2.2.2
  replace hM : Mem _ _ w12 [_, _, _, _, _, _] := hM.pick [3, 0, 1, 2, 4, 5] rfl
  refine s_storeSegs 0 30 (vss := [[.int .i64 plainH.m], [.int .i64 plainH.r], [.bool plainH.v0.1], [.int .u64 ((plainH.v0.2.1 : Nat) : Int)], bv plainH.v0.2.2.1, bv plainH.v0.2.2.2, [.bool plainH.v1.1], [.int .u64 ((plainH.v1.2.1 : Nat) : Int)], bv plainH.v1.2.2.1, bv plainH.v1.2.2.2, [.bool plainH.s0.1], [.int .i64 plainH.s0.2.1], bv plainH.s0.2.2.1, bv plainH.s0.2.2.2.1, bv plainH.s0.2.2.2.2, [.bool plainH.s1.1], [.int .i64 plainH.s1.2.1], bv plainH.s1.2.2.1, bv plainH.s1.2.2.2.1, bv plainH.s1.2.2.2.2, [.bool plainH.s2.1], [.int .i64 plainH.s2.2.1], bv plainH.s2.2.2.1, bv plainH.s2.2.2.2.1, bv plainH.s2.2.2.2.2, [.bool plainH.s3.1], [.int .i64 plainH.s3.2.1], bv plainH.s3.2.2.1, bv plainH.s3.2.2.2.1, bv plainH.s3.2.2.2.2]) hE rfl rfl hM rfl sz39 (by simp only [List.take_succ_cons, List.take_zero, List.drop_zero, List.drop_succ_cons]; simp only [List.map_cons, List.map_nil, bv_length, List.length_cons, List.length_nil, List.length_replicate, hsl106_4, hsl106_5, hsl106_8, hsl106_9, hsl106_12, hsl106_13, hsl106_14, hsl106_17, hsl106_18, hsl106_19, hsl106_22, hsl106_23, hsl106_24, hsl106_27, hsl106_28, hsl106_29]) (by decide) rfl (one_fl ⟨one1 rfl, one1 rfl, one1 rfl, one1 rfl, bv_one _, bv_one _, one1 rfl, one1 rfl, bv_one _, bv_one _, one1 rfl, one1 rfl, bv_one _, bv_one _, bv_one _, one1 rfl, one1 rfl, bv_one _, bv_one _, bv_one _, one1 rfl, one1 rfl, bv_one _, bv_one _, bv_one _, one1 rfl, one1 rfl, bv_one _, bv_one _, bv_one _, trivial⟩) rfl (by intro X h; cases h) ?_; intro w13 hM'; clear hM; have hM := hM'; clear hM'
  try simp only [List.take_zero, List.take_succ_cons, List.drop_zero, List.drop_succ_cons, List.take_nil, List.drop_nil, List.nil_append, List.append_nil, List.cons_append] at hM
  have hsl125_4 : plainH.v0.2.2.1.length = 32 := plainH_ok.v0.2.1
  have hsl125_5 : plainH.v0.2.2.2.length = 32 := plainH_ok.v0.2.2
  have hsl125_8 : plainH.v1.2.2.1.length = 32 := plainH_ok.v1.2.1
  have hsl125_9 : plainH.v1.2.2.2.length = 32 := plainH_ok.v1.2.2
  have hsl125_12 : plainH.s0.2.2.1.length = 16 := plainH_ok.s0.2.1
  have hsl125_13 : plainH.s0.2.2.2.1.length = 32 := plainH_ok.s0.2.2.1
  have hsl125_14 : plainH.s0.2.2.2.2.length = 32 := plainH_ok.s0.2.2.2
  have hsl125_17 : plainH.s1.2.2.1.length = 16 := plainH_ok.s1.2.1
  have hsl125_18 : plainH.s1.2.2.2.1.length = 32 := plainH_ok.s1.2.2.1
  have hsl125_19 : plainH.s1.2.2.2.2.length = 32 := plainH_ok.s1.2.2.2
  have hsl125_22 : plainH.s2.2.2.1.length = 16 := plainH_ok.s2.2.1
  have hsl125_23 : plainH.s2.2.2.2.1.length = 32 := plainH_ok.s2.2.2.1
  have hsl125_24 : plainH.s2.2.2.2.2.length = 32 := plainH_ok.s2.2.2.2
  have hsl125_27 : plainH.s3.2.2.1.length = 16 := plainH_ok.s3.2.1
  have hsl125_28 : plainH.s3.2.2.2.1.length = 32 := plainH_ok.s3.2.2.1
  have hsl125_29 : plainH.s3.2.2.2.2.length = 32 := plainH_ok.s3.2.2.2
  replace hM : Mem _ _ w13 [_, _, _, _, _, _] := hM.pick [3, 0, 1, 2, 4, 5] rfl
  refine s_storeSegs 0 30 (vss := [[.int .i64 plainH.m], [.int .i64 plainH.r], [.bool plainH.v0.1], [.int .u64 ((plainH.v0.2.1 : Nat) : Int)], bv plainH.v0.2.2.1, bv plainH.v0.2.2.2, [.bool plainH.v1.1], [.int .u64 ((plainH.v1.2.1 : Nat) : Int)], bv plainH.v1.2.2.1, bv plainH.v1.2.2.2, [.bool plainH.s0.1], [.int .i64 plainH.s0.2.1], bv plainH.s0.2.2.1, bv plainH.s0.2.2.2.1, bv plainH.s0.2.2.2.2, [.bool plainH.s1.1], [.int .i64 plainH.s1.2.1], bv plainH.s1.2.2.1, bv plainH.s1.2.2.2.1, bv plainH.s1.2.2.2.2, [.bool plainH.s2.1], [.int .i64 plainH.s2.2.1], bv plainH.s2.2.2.1, bv plainH.s2.2.2.2.1, bv plainH.s2.2.2.2.2, [.bool plainH.s3.1], [.int .i64 plainH.s3.2.1], bv plainH.s3.2.2.1, bv plainH.s3.2.2.2.1, bv plainH.s3.2.2.2.2]) hE rfl rfl hM rfl sz39 (by simp only [List.take_succ_cons, List.take_zero, List.drop_zero, List.drop_succ_cons]; simp only [List.map_cons, List.map_nil, bv_length, List.length_cons, List.length_nil, List.length_replicate, hsl125_4, hsl125_5, hsl125_8, hsl125_9, hsl125_12, hsl125_13, hsl125_14, hsl125_17, hsl125_18, hsl125_19, hsl125_22, hsl125_23, hsl125_24, hsl125_27, hsl125_28, hsl125_29]) (by decide) rfl (one_fl ⟨one1 rfl, one1 rfl, one1 rfl, one1 rfl, bv_one _, bv_one _, one1 rfl, one1 rfl, bv_one _, bv_one _, one1 rfl, one1 rfl, bv_one _, bv_one _, bv_one _, one1 rfl, one1 rfl, bv_one _, bv_one _, bv_one _, one1 rfl, one1 rfl, bv_one _, bv_one _, bv_one _, one1 rfl, one1 rfl, bv_one _, bv_one _, bv_one _, trivial⟩) rfl (by intro X h; cases h) ?_; intro w14 hM'; clear hM; have hM := hM'; clear hM'
  try simp only [List.take_zero, List.take_succ_cons, List.drop_zero, List.drop_succ_cons, List.take_nil, List.drop_nil, List.nil_append, List.append_nil, List.cons_append] at hM
  have hsl144_4 : plainH.v0.2.2.1.length = 32 := plainH_ok.v0.2.1
  have hsl144_5 : plainH.v0.2.2.2.length = 32 := plainH_ok.v0.2.2
  have hsl144_8 : plainH.v1.2.2.1.length = 32 := plainH_ok.v1.2.1
  have hsl144_9 : plainH.v1.2.2.2.length = 32 := plainH_ok.v1.2.2
  have hsl144_12 : plainH.s0.2.2.1.length = 16 := plainH_ok.s0.2.1
  have hsl144_13 : plainH.s0.2.2.2.1.length = 32 := plainH_ok.s0.2.2.1
  have hsl144_14 : plainH.s0.2.2.2.2.length = 32 := plainH_ok.s0.2.2.2
  have hsl144_17 : plainH.s1.2.2.1.length = 16 := plainH_ok.s1.2.1
  have hsl144_18 : plainH.s1.2.2.2.1.length = 32 := plainH_ok.s1.2.2.1
  have hsl144_19 : plainH.s1.2.2.2.2.length = 32 := plainH_ok.s1.2.2.2
  have hsl144_22 : plainH.s2.2.2.1.length = 16 := plainH_ok.s2.2.1
  have hsl144_23 : plainH.s2.2.2.2.1.length = 32 := plainH_ok.s2.2.2.1
  have hsl144_24 : plainH.s2.2.2.2.2.length = 32 := plainH_ok.s2.2.2.2
  have hsl144_27 : plainH.s3.2.2.1.length = 16 := plainH_ok.s3.2.1
  have hsl144_28 : plainH.s3.2.2.2.1.length = 32 := plainH_ok.s3.2.2.1
  have hsl144_29 : plainH.s3.2.2.2.2.length = 32 := plainH_ok.s3.2.2.2
  replace hM : Mem _ _ w14 [_, _, _, _, _, _] := hM.pick [3, 0, 1, 2, 4, 5] rfl
  refine s_storeSegs 0 30 (vss := [[.int .i64 plainH.m], [.int .i64 plainH.r], [.bool plainH.v0.1], [.int .u64 ((plainH.v0.2.1 : Nat) : Int)], bv plainH.v0.2.2.1, bv plainH.v0.2.2.2, [.bool plainH.v1.1], [.int .u64 ((plainH.v1.2.1 : Nat) : Int)], bv plainH.v1.2.2.1, bv plainH.v1.2.2.2, [.bool plainH.s0.1], [.int .i64 plainH.s0.2.1], bv plainH.s0.2.2.1, bv plainH.s0.2.2.2.1, bv plainH.s0.2.2.2.2, [.bool plainH.s1.1], [.int .i64 plainH.s1.2.1], bv plainH.s1.2.2.1, bv plainH.s1.2.2.2.1, bv plainH.s1.2.2.2.2, [.bool plainH.s2.1], [.int .i64 plainH.s2.2.1], bv plainH.s2.2.2.1, bv plainH.s2.2.2.2.1, bv plainH.s2.2.2.2.2, [.bool plainH.s3.1], [.int .i64 plainH.s3.2.1], bv plainH.s3.2.2.1, bv plainH.s3.2.2.2.1, bv plainH.s3.2.2.2.2]) hE rfl rfl hM rfl sz39 (by simp only [List.take_succ_cons, List.take_zero, List.drop_zero, List.drop_succ_cons]; simp only [List.map_cons, List.map_nil, bv_length, List.length_cons, List.length_nil, List.length_replicate, hsl144_4, hsl144_5, hsl144_8, hsl144_9, hsl144_12, hsl144_13, hsl144_14, hsl144_17, hsl144_18, hsl144_19, hsl144_22, hsl144_23, hsl144_24, hsl144_27, hsl144_28, hsl144_29]) (by decide) rfl (one_fl ⟨one1 rfl, one1 rfl, one1 rfl, one1 rfl, bv_one _, bv_one _, one1 rfl, one1 rfl, bv_one _, bv_one _, one1 rfl, one1 rfl, bv_one _, bv_one _, bv_one _, one1 rfl, one1 rfl, bv_one _, bv_one _, bv_one _, one1 rfl, one1 rfl, bv_one _, bv_one _, bv_one _, one1 rfl, one1 rfl, bv_one _, bv_one _, bv_one _, trivial⟩) rfl (by intro X h; cases h) ?_; intro w15 hM'; clear hM; have hM := hM'; clear hM'
  try simp only [List.take_zero, List.take_succ_cons, List.drop_zero, List.drop_succ_cons, List.take_nil, List.drop_nil, List.nil_append, List.append_nil, List.cons_append] at hM
  refine q_nil ?_
  replace hE : Env a 170 [(0, _), (1, _), (2, _), (3, _), (4, _), (5, _), (6, _), (7, _), (41, _)] := hE.sel [0, 1, 2, 3, 4, 5, 6, 7, 41] rfl
  refine hK6 _ _ ?_
  refine wp_seq_k (fun K7 hK7 => ?_)
  refine wp_plain [true, true, false] rfl rfl ?_
  refine s_fieldAddr hE rfl fo39_0 rfl ?_; clear hE a; intro a hE
  refine s_fieldAddr hE rfl fo23_0 rfl ?_; clear hE a; intro a hE
  replace hM : Mem _ _ w15 [_, _, _, _, _, _] := hM.pick [3, 0, 1, 2, 4, 5] rfl
  refine s_store1 0 hE rfl rfl hM rfl rfl sz3 rfl rfl (by intro X h; cases h) ?_; intro w16 hM'; clear hM; have hM := hM'; clear hM'
  refine q_nil ?_
  replace hE : Env a 170 [(0, _), (1, _), (2, _), (3, _), (4, _), (5, _), (6, _), (7, _), (41, _)] := hE.sel [0, 1, 2, 3, 4, 5, 6, 7, 41] rfl
  refine hK7 _ _ ?_
  refine wp_seq_k (fun K8 hK8 => ?_)
  refine wp_plain [true, true, true, false] rfl rfl ?_
  refine s_fieldAddr hE rfl fo39_2 rfl ?_; clear hE a; intro a hE
  refine s_indexArr (j := 2) hE rfl rfl arr37 rfl (by decide) rfl ?_; clear hE a; intro a hE
  refine s_fieldAddr hE rfl fo36_1 rfl ?_; clear hE a; intro a hE
  replace hM : Mem _ _ w16 [_, _, _, _, _, _] := hM.pick [3, 0, 1, 2, 4, 5] rfl
  refine s_store1 21 hE rfl rfl hM rfl rfl sz3 rfl rfl (by intro X h; cases h) ?_; intro w17 hM'; clear hM; have hM := hM'; clear hM'
  refine q_nil ?_
  replace hE : Env a 170 [(0, _), (1, _), (2, _), (3, _), (4, _), (5, _), (6, _), (7, _), (41, _)] := hE.sel [0, 1, 2, 3, 4, 5, 6, 7, 41] rfl
  refine hK8 _ _ ?_
  refine wp_seq_k (fun K9 hK9 => ?_)
  refine wp_plain [true, true, true, false] rfl rfl ?_
  refine s_fieldAddr hE rfl fo39_2 rfl ?_; clear hE a; intro a hE
  refine s_indexArr (j := 0) hE rfl rfl arr37 rfl (by decide) rfl ?_; clear hE a; intro a hE
  refine s_fieldAddr hE rfl fo36_0 rfl ?_; clear hE a; intro a hE
  replace hM : Mem _ _ w17 [_, _, _, _, _, _] := hM.pick [3, 0, 1, 2, 4, 5] rfl
  refine s_store1 10 hE rfl rfl hM rfl rfl sz4 rfl rfl (by intro X h; cases h) ?_; intro w18 hM'; clear hM; have hM := hM'; clear hM'
  refine q_nil ?_
  replace hE : Env a 170 [(0, _), (1, _), (2, _), (3, _), (4, _), (5, _), (6, _), (7, _), (41, _)] := hE.sel [0, 1, 2, 3, 4, 5, 6, 7, 41] rfl
  refine hK9 _ _ ?_
  refine wp_seq_k (fun K10 hK10 => ?_)
  refine wp_plain [true, true, true, false] rfl rfl ?_
  refine s_fieldAddr hE rfl fo39_2 rfl ?_; clear hE a; intro a hE
  refine s_indexArr (j := 3) hE rfl rfl arr37 rfl (by decide) rfl ?_; clear hE a; intro a hE
  refine s_fieldAddr hE rfl fo36_0 rfl ?_; clear hE a; intro a hE
  replace hM : Mem _ _ w18 [_, _, _, _, _, _] := hM.pick [3, 0, 1, 2, 4, 5] rfl
  refine s_store1 25 hE rfl rfl hM rfl rfl sz4 rfl rfl (by intro X h; cases h) ?_; intro w19 hM'; clear hM; have hM := hM'; clear hM'
  refine q_nil ?_
  replace hE : Env a 170 [(0, _), (1, _), (2, _), (3, _), (4, _), (5, _), (6, _), (7, _), (41, _)] := hE.sel [0, 1, 2, 3, 4, 5, 6, 7, 41] rfl
  refine hK10 _ _ ?_
  refine wp_seq_k (fun K11 hK11 => ?_)
  refine wp_plain [true, true, true, false] rfl rfl ?_
  refine s_fieldAddr hE rfl fo39_2 rfl ?_; clear hE a; intro a hE
  refine s_indexArr (j := 3) hE rfl rfl arr37 rfl (by decide) rfl ?_; clear hE a; intro a hE
  refine s_fieldAddr hE rfl fo36_1 rfl ?_; clear hE a; intro a hE
  refine s_store1 26 hE rfl rfl hM rfl rfl sz3 rfl rfl (by intro X h; cases h) ?_; intro w20 hM'; clear hM; have hM := hM'; clear hM'
  refine q_nil ?_
  replace hE : Env a 170 [(0, _), (1, _), (2, _), (3, _), (4, _), (5, _), (6, _), (7, _), (41, _)] := hE.sel [0, 1, 2, 3, 4, 5, 6, 7, 41] rfl
  refine hK11 _ _ ?_
  refine wp_seq_k (fun K12 hK12 => ?_)
  refine wp_plain [true, false, true, true, true, true, true] rfl rfl ?_
  refine s_loadN hE rfl (hM.get 3 rfl) row39 rfl (by intro X h; cases h) rfl ?_; clear hE a; intro a hE
  replace hE := hE.cast 61 rfl (show _ = Value.agg ([[.int .i64 3], [.int .i64 plainH.r], [.bool plainH.v0.1], [.int .u64 ((plainH.v0.2.1 : Nat) : Int)], bv plainH.v0.2.2.1, bv plainH.v0.2.2.2, [.bool plainH.v1.1], [.int .u64 ((plainH.v1.2.1 : Nat) : Int)], bv plainH.v1.2.2.1, bv plainH.v1.2.2.2, [.bool plainH.s0.1], [.int .i64 plainH.s0.2.1], bv plainH.s0.2.2.1, bv plainH.s0.2.2.2.1, bv plainH.s0.2.2.2.2, [.bool plainH.s1.1], [.int .i64 plainH.s1.2.1], bv plainH.s1.2.2.1, bv plainH.s1.2.2.2.1, bv plainH.s1.2.2.2.2, [.bool plainH.s2.1], [.int .i64 plainH.s2.2.1], bv plainH.s2.2.2.1, bv plainH.s2.2.2.2.1, bv plainH.s2.2.2.2.2, [.bool plainH.s3.1], [.int .i64 plainH.s3.2.1], bv plainH.s3.2.2.1, bv plainH.s3.2.2.2.1, bv plainH.s3.2.2.2.2] : List (List Value)).flatten.toArray from (by first | rfl | simp only [List.flatten_cons, List.flatten_nil, List.append_nil, List.append_assoc]))
  refine s_call hE rfl Try.call8 (hput_a threeH _ threeH_ok) rfl ?_
  rintro e w21 ⟨v62_0, rfl, hN⟩
  refine ⟨_, rfl, trivial, ?_⟩; clear hE a; intro a hE
  replace hM : Mem _ _ w21 [_, _, _, _, _, _, _] := hM.call0 hN ⟨rfl, trivial⟩; clear hN
  refine s_move hE rfl rfl ?_; clear hE a; intro a hE
  refine s_extract hE rfl rfl rfl ?_; clear hE a; intro a hE
  refine s_extract hE rfl rfl rfl ?_; clear hE a; intro a hE
  refine s_assign hE rfl rfl ?_; clear hE a; intro a hE
  refine s_assign hE rfl rfl ?_; clear hE a; intro a hE
  refine q_nil ?_
  replace hE : Env a 170 [(0, _), (1, _), (2, _), (3, _), (4, _), (5, _), (6, _), (7, _), (9, _), (41, _)] := hE.sel [0, 1, 2, 3, 4, 5, 6, 7, 9, 41] rfl
  refine hK12 _ _ ?_
  refine wp_seq_k (fun K13 hK13 => ?_)
  refine wp_plain [true, false, true, true, true, true, true] rfl rfl ?_
  refine s_loadN hE rfl (hM.get 3 rfl) row39 rfl (by intro X h; cases h) rfl ?_; clear hE a; intro a hE
  replace hE := hE.cast 66 rfl (show _ = Value.agg ([[.int .i64 plainH.m], [.int .i64 plainH.r], [.bool plainH.v0.1], [.int .u64 ((plainH.v0.2.1 : Nat) : Int)], bv plainH.v0.2.2.1, bv plainH.v0.2.2.2, [.bool plainH.v1.1], [.int .u64 ((plainH.v1.2.1 : Nat) : Int)], bv plainH.v1.2.2.1, bv plainH.v1.2.2.2, [.bool plainH.s0.1], [.int .i64 plainH.s0.2.1], bv plainH.s0.2.2.1, bv plainH.s0.2.2.2.1, bv plainH.s0.2.2.2.2, [.bool plainH.s1.1], [.int .i64 plainH.s1.2.1], bv plainH.s1.2.2.1, bv plainH.s1.2.2.2.1, bv plainH.s1.2.2.2.2, [.bool plainH.s2.1], [.int .i64 1], bv plainH.s2.2.2.1, bv plainH.s2.2.2.2.1, bv plainH.s2.2.2.2.2, [.bool plainH.s3.1], [.int .i64 plainH.s3.2.1], bv plainH.s3.2.2.1, bv plainH.s3.2.2.2.1, bv plainH.s3.2.2.2.2] : List (List Value)).flatten.toArray from (by first | rfl | simp only [List.flatten_cons, List.flatten_nil, List.append_nil, List.append_assoc]))
  refine s_call hE rfl Try.call8 (hput_a oneH _ oneH_ok) rfl ?_
  rintro e w22 ⟨v67_0, rfl, hN⟩
  refine ⟨_, rfl, trivial, ?_⟩; clear hE a; intro a hE
  replace hM : Mem _ _ w22 [_, _, _, _, _, _, _, _] := hM.call0 hN ⟨rfl, trivial⟩; clear hN
  refine s_move hE rfl rfl ?_; clear hE a; intro a hE
  refine s_extract hE rfl rfl rfl ?_; clear hE a; intro a hE
  refine s_extract hE rfl rfl rfl ?_; clear hE a; intro a hE
  refine s_assign hE rfl rfl ?_; clear hE a; intro a hE
  refine s_assign hE rfl rfl ?_; clear hE a; intro a hE
  refine q_nil ?_
  replace hE : Env a 170 [(0, _), (1, _), (2, _), (3, _), (4, _), (5, _), (6, _), (7, _), (9, _), (11, _), (41, _)] := hE.sel [0, 1, 2, 3, 4, 5, 6, 7, 9, 11, 41] rfl
  refine hK13 _ _ ?_
  refine wp_seq_k (fun K14 hK14 => ?_)
  refine wp_plain [true, false, true, true, true, true, true] rfl rfl ?_
  refine s_loadN hE rfl (hM.get 3 rfl) row39 rfl (by intro X h; cases h) rfl ?_; clear hE a; intro a hE
  replace hE := hE.cast 71 rfl (show _ = Value.agg ([[.int .i64 plainH.m], [.int .i64 plainH.r], [.bool plainH.v0.1], [.int .u64 ((plainH.v0.2.1 : Nat) : Int)], bv plainH.v0.2.2.1, bv plainH.v0.2.2.2, [.bool plainH.v1.1], [.int .u64 ((plainH.v1.2.1 : Nat) : Int)], bv plainH.v1.2.2.1, bv plainH.v1.2.2.2, [.bool true], [.int .i64 plainH.s0.2.1], bv plainH.s0.2.2.1, bv plainH.s0.2.2.2.1, bv plainH.s0.2.2.2.2, [.bool plainH.s1.1], [.int .i64 plainH.s1.2.1], bv plainH.s1.2.2.1, bv plainH.s1.2.2.2.1, bv plainH.s1.2.2.2.2, [.bool plainH.s2.1], [.int .i64 plainH.s2.2.1], bv plainH.s2.2.2.1, bv plainH.s2.2.2.2.1, bv plainH.s2.2.2.2.2, [.bool plainH.s3.1], [.int .i64 plainH.s3.2.1], bv plainH.s3.2.2.1, bv plainH.s3.2.2.2.1, bv plainH.s3.2.2.2.2] : List (List Value)).flatten.toArray from (by first | rfl | simp only [List.flatten_cons, List.flatten_nil, List.append_nil, List.append_assoc]))
  refine s_call hE rfl Try.call8 (hput_a noneH _ noneH_ok) rfl ?_
  rintro e w23 ⟨v72_0, rfl, hN⟩
  refine ⟨_, rfl, trivial, ?_⟩; clear hE a; intro a hE
  replace hM : Mem _ _ w23 [_, _, _, _, _, _, _, _, _] := hM.call0 hN ⟨rfl, trivial⟩; clear hN
  refine s_move hE rfl rfl ?_; clear hE a; intro a hE
  refine s_extract hE rfl rfl rfl ?_; clear hE a; intro a hE
  refine s_extract hE rfl rfl rfl ?_; clear hE a; intro a hE
  refine s_assign hE rfl rfl ?_; clear hE a; intro a hE
  refine s_assign hE rfl rfl ?_; clear hE a; intro a hE
  refine q_nil ?_
  replace hE : Env a 170 [(0, _), (1, _), (2, _), (3, _), (4, _), (5, _), (6, _), (7, _), (9, _), (11, _), (13, _), (41, _)] := hE.sel [0, 1, 2, 3, 4, 5, 6, 7, 9, 11, 13, 41] rfl
  refine hK14 _ _ ?_
  refine wp_seq_k (fun K15 hK15 => ?_)
  refine wp_plain [true, false, true, true, true, true, true] rfl rfl ?_
  refine s_loadN hE rfl (hM.get 3 rfl) row39 rfl (by intro X h; cases h) rfl ?_; clear hE a; intro a hE
  replace hE := hE.cast 76 rfl (show _ = Value.agg ([[.int .i64 plainH.m], [.int .i64 plainH.r], [.bool plainH.v0.1], [.int .u64 ((plainH.v0.2.1 : Nat) : Int)], bv plainH.v0.2.2.1, bv plainH.v0.2.2.2, [.bool plainH.v1.1], [.int .u64 ((plainH.v1.2.1 : Nat) : Int)], bv plainH.v1.2.2.1, bv plainH.v1.2.2.2, [.bool plainH.s0.1], [.int .i64 plainH.s0.2.1], bv plainH.s0.2.2.1, bv plainH.s0.2.2.2.1, bv plainH.s0.2.2.2.2, [.bool plainH.s1.1], [.int .i64 plainH.s1.2.1], bv plainH.s1.2.2.1, bv plainH.s1.2.2.2.1, bv plainH.s1.2.2.2.2, [.bool plainH.s2.1], [.int .i64 plainH.s2.2.1], bv plainH.s2.2.2.1, bv plainH.s2.2.2.2.1, bv plainH.s2.2.2.2.2, [.bool true], [.int .i64 4097], bv plainH.s3.2.2.1, bv plainH.s3.2.2.2.1, bv plainH.s3.2.2.2.2] : List (List Value)).flatten.toArray from (by first | rfl | simp only [List.flatten_cons, List.flatten_nil, List.append_nil, List.append_assoc]))
  refine s_call hE rfl Try.call8 (hput_a manyH _ manyH_ok) rfl ?_
  rintro e w24 ⟨v77_0, rfl, hN⟩
  refine ⟨_, rfl, trivial, ?_⟩; clear hE a; intro a hE
  replace hM : Mem _ _ w24 [_, _, _, _, _, _, _, _, _, _] := hM.call0 hN ⟨rfl, trivial⟩; clear hN
  refine s_move hE rfl rfl ?_; clear hE a; intro a hE
  refine s_extract hE rfl rfl rfl ?_; clear hE a; intro a hE
  refine s_extract hE rfl rfl rfl ?_; clear hE a; intro a hE
  refine s_assign hE rfl rfl ?_; clear hE a; intro a hE
  refine s_assign hE rfl rfl ?_; clear hE a; intro a hE
  refine q_nil ?_
  replace hE : Env a 170 [(0, _), (1, _), (2, _), (3, _), (4, _), (5, _), (6, _), (7, _), (9, _), (11, _), (13, _), (15, _), (41, _)] := hE.sel [0, 1, 2, 3, 4, 5, 6, 7, 9, 11, 13, 15, 41] rfl
  refine hK15 _ _ ?_
  refine wp_seq_k (fun K16 hK16 => ?_)
  refine wp_plain [false, true, false, true] rfl rfl ?_
  refine s_buildSlice (xs := []) (([] : List (List UInt8)).flatMap bv) hE hM sl40 rfl rfl rfl (by intro v hv; cases hv) rfl rfl rfl rfl ?_; clear hE a; intro a v80 w25 hE hM'
  clear hM; have hM := hM'; clear hM'
  replace hM := hM.ownEq (m' := ([] : List (List UInt8)).length) (cs' := ([] : List (List UInt8)).flatMap bv) rfl rfl
  refine s_move hE rfl rfl ?_; clear hE a; intro a hE
  obtain ⟨cq2, hq2⟩ := own_rd (hM.get 10 rfl)
  refine s_append hE rfl rfl hM sl40 (Src.rd Try.underlying40 hq2 (bvs_one _)) (len47 (by decide +kernel)) (by decide +kernel) (by intro X h; cases h) rfl ?_; clear hE a; intro a v82 w26 hE hM'; clear hM; have hM := hM'; clear hM'
  replace hM := hM.ownEq (m' := (putH plainH).length) (cs' := (putH plainH).flatMap bv) (by simp) rfl
  refine s_assign hE rfl rfl ?_; clear hE a; intro a hE
  refine q_nil ?_
  replace hE : Env a 170 [(0, _), (1, _), (2, _), (3, _), (4, _), (5, _), (6, _), (7, _), (9, _), (11, _), (13, _), (15, _), (16, _), (41, _)] := hE.sel [0, 1, 2, 3, 4, 5, 6, 7, 9, 11, 13, 15, 16, 41] rfl
  refine hK16 _ _ ?_
  refine wp_seq_k (fun K17 hK17 => ?_)
  refine wp_treeM hM (by kernel_rfl) (fun _ => True) (fun _ => True) (.re [(0, true), (1, true), (2, true), (5, true), (3, true), (4, true), (6, true), (7, false)] (.fl 4 (.weak (.fl 3 (.cut (.or 7 (.cut (.re [] (.weak (.leaf 0)))) (.stop))))))) [(0, true), (1, true), (2, true), (5, true), (3, true), (4, true), (6, true), (7, false)] [(1, [(2, 1), (3, 2), (4, 3), (6, 1), (7, 1)]), (2, [(3, 2), (4, 3), (6, 2), (7, 2)]), (3, [(4, 3), (6, 3), (7, 3)]), (4, [(6, 4), (7, 4)]), (5, [(6, 5), (7, 6)]), (6, [(7, 6)]), (7, [])] (by kernel_rfl) ?_
  intro w27 hM' hww27; clear hM; have hM := hM'; clear hM'
  refine o_re ?_
  refine o_fl rfl ?_
  refine s_move hE rfl rfl ?_; clear hE a; intro a hE
  have hlj84 : 7 < (putH plainH).length := (by decide +kernel)
  refine s_indexOwn (j := 7) hE rfl (hM.get 0 rfl) rfl slt40 (by first | rfl | omega) hlj84 rfl ?_; clear hE a; intro a hE hc84
  rw [flat_elem (d := (List.replicate 64 (0 : UInt8))) (fun x hx => ((bv_length _).trans ((putH_ok plainH_ok) x hx))) hlj84] at hc84
  refine s_indexElem (j := 63) (q := (7 * 64 + 63)) hE rfl (hM.get 0 rfl) (by have := hlj84; omega) hc84 rfl arr59 (by first | rfl | omega) (by first | omega | decide) (row64 (putH_ok plainH_ok) hlj84) rfl rfl ?_; clear hE a; intro a hE hc85
  have hlj88 : 7 < (putH plainH).length := (by decide +kernel)
  refine s_indexOwn (j := 7) hE rfl (hM.get 0 rfl) rfl slt40 (by first | rfl | omega) hlj88 rfl ?_; clear hE a; intro a hE hc88
  rw [flat_elem (d := (List.replicate 64 (0 : UInt8))) (fun x hx => ((bv_length _).trans ((putH_ok plainH_ok) x hx))) hlj88] at hc88
  refine q_nil (q_nx ?_)
  refine o_weak (fun _ => False) (fun _ _ => trivial) ?_
  refine o_fl rfl ?_
  refine s_loadAt1 hE rfl hc85 one5 (by intro X h; cases h; simp) rfl ?_; clear hE a; intro a hE
  refine s_bin hE rfl rfl (bin_xor8 (x := ((putH plainH).getD 7 (List.replicate 64 (0 : UInt8))).getD 63 0) (y := 1)) rfl ?_; clear hE a; intro a hE
  refine s_indexElem (j := 63) (q := (7 * 64 + 63)) hE rfl (hM.get 0 rfl) (by have := hlj88; omega) hc88 rfl arr59 (by first | rfl | omega) (by first | omega | decide) (row64 (putH_ok plainH_ok) hlj88) rfl rfl ?_; clear hE a; intro a hE hc89
  refine q_nil (q_nx ?_)
  refine o_cut (fun b => b ∈ valBlocks v82) ?_
  refine o_or rfl ?_ ?_
  · refine s_storeOwn (vs := [_]) hE rfl rfl hM rfl sz5 rfl (one1 rfl) (by have := hlj88; simp only [List.length_cons, List.length_nil]; omega) (by have := hlj88; omega) (by intro X h; cases h; exact fun _ hb => hb) ?_; intro w28 hM'; clear hM; have hM := hM'; clear hM'
    replace hM := Mem.rowsWr1 (ls := putH plainH) (x := (((putH plainH).getD 7 (List.replicate 64 (0 : UInt8))).getD 63 0) ^^^ 1) (j := 7) (k := 63) hM rfl (putH_ok plainH_ok) hlj88 (by first | omega | decide)
    refine q_nil (q_nx ?_)
    refine o_cut (fun _ => True) ?_
    refine o_re ?_
    refine o_weak (fun _ => False) (fun _ _ => trivial) ?_
    refine o_leaf rfl rfl ?_
    refine q_nil (q_ph (q_nil ?_))
    replace hE : Env a 170 [(0, _), (1, _), (2, _), (3, _), (4, _), (5, _), (6, _), (7, _), (9, _), (11, _), (13, _), (15, _), (16, _), (41, _)] := hE.sel [0, 1, 2, 3, 4, 5, 6, 7, 9, 11, 13, 15, 16, 41] rfl
    refine hK17 _ _ ?_
    refine wp_seq_k (fun K18 hK18 => ?_)
    refine wp_plain [true, false, true, true, true, false, false, true] rfl rfl ?_
    refine s_move hE rfl rfl ?_; clear hE a; intro a hE
    obtain ⟨cq3, hq3⟩ := own_rd (hM.get 0 rfl)
    refine s_call hE rfl Try.call14 (hget_a _ ((putH plainH).set 7 (((putH plainH).getD 7 []).set 63 ((((putH plainH).getD 7 (List.replicate 64 (0 : UInt8))).getD 63 0) ^^^ 1))) _ _ hq3 (ok_set (putH_ok plainH_ok) ((List.length_set ..).trans (row64 (putH_ok plainH_ok) hlj88))) (by decide +kernel)) rfl ?_
    rintro e w29 ⟨rfl, hN⟩
    refine ⟨_, rfl, trivial, ?_⟩; clear hE a; intro a hE
    replace hM : Mem _ _ w29 [_, _, _, _, _, _, _, _, _, _, _] := hM.call0 hN trivial; clear hN
    refine s_move hE rfl rfl ?_; clear hE a; intro a hE
    refine s_extract hE rfl rfl rfl ?_; clear hE a; intro a hE
    refine s_extract hE rfl rfl rfl ?_; clear hE a; intro a hE
    refine s_alloc [1, 1, 1, 1, 32, 32, 1, 1, 32, 32, 1, 1, 16, 32, 32, 1, 1, 16, 32, 32, 1, 1, 16, 32, 32, 1, 1, 16, 32, 32] hE hM zeroL39 rfl rfl ?_; clear hE a; intro a b17 w30 hE hM'
    clear hM; have hM := hM'; clear hM'
    have hsl336_4 : ((getHH ((putH plainH).set 7 (((putH plainH).getD 7 []).set 63 ((((putH plainH).getD 7 (List.replicate 64 (0 : UInt8))).getD 63 0) ^^^ 1)))).v0.2.2.1).length = 32 := (getHH_ok (ok_set (putH_ok plainH_ok) ((List.length_set ..).trans (row64 (putH_ok plainH_ok) hlj88)))).v0.2.1
    have hsl336_5 : ((getHH ((putH plainH).set 7 (((putH plainH).getD 7 []).set 63 ((((putH plainH).getD 7 (List.replicate 64 (0 : UInt8))).getD 63 0) ^^^ 1)))).v0.2.2.2).length = 32 := (getHH_ok (ok_set (putH_ok plainH_ok) ((List.length_set ..).trans (row64 (putH_ok plainH_ok) hlj88)))).v0.2.2
    have hsl336_8 : ((getHH ((putH plainH).set 7 (((putH plainH).getD 7 []).set 63 ((((putH plainH).getD 7 (List.replicate 64 (0 : UInt8))).getD 63 0) ^^^ 1)))).v1.2.2.1).length = 32 := (getHH_ok (ok_set (putH_ok plainH_ok) ((List.length_set ..).trans (row64 (putH_ok plainH_ok) hlj88)))).v1.2.1
    have hsl336_9 : ((getHH ((putH plainH).set 7 (((putH plainH).getD 7 []).set 63 ((((putH plainH).getD 7 (List.replicate 64 (0 : UInt8))).getD 63 0) ^^^ 1)))).v1.2.2.2).length = 32 := (getHH_ok (ok_set (putH_ok plainH_ok) ((List.length_set ..).trans (row64 (putH_ok plainH_ok) hlj88)))).v1.2.2
    have hsl336_12 : ((getHH ((putH plainH).set 7 (((putH plainH).getD 7 []).set 63 ((((putH plainH).getD 7 (List.replicate 64 (0 : UInt8))).getD 63 0) ^^^ 1)))).s0.2.2.1).length = 16 := (getHH_ok (ok_set (putH_ok plainH_ok) ((List.length_set ..).trans (row64 (putH_ok plainH_ok) hlj88)))).s0.2.1
    have hsl336_13 : ((getHH ((putH plainH).set 7 (((putH plainH).getD 7 []).set 63 ((((putH plainH).getD 7 (List.replicate 64 (0 : UInt8))).getD 63 0) ^^^ 1)))).s0.2.2.2.1).length = 32 := (getHH_ok (ok_set (putH_ok plainH_ok) ((List.length_set ..).trans (row64 (putH_ok plainH_ok) hlj88)))).s0.2.2.1
    have hsl336_14 : ((getHH ((putH plainH).set 7 (((putH plainH).getD 7 []).set 63 ((((putH plainH).getD 7 (List.replicate 64 (0 : UInt8))).getD 63 0) ^^^ 1)))).s0.2.2.2.2).length = 32 := (getHH_ok (ok_set (putH_ok plainH_ok) ((List.length_set ..).trans (row64 (putH_ok plainH_ok) hlj88)))).s0.2.2.2
    have hsl336_17 : ((getHH ((putH plainH).set 7 (((putH plainH).getD 7 []).set 63 ((((putH plainH).getD 7 (List.replicate 64 (0 : UInt8))).getD 63 0) ^^^ 1)))).s1.2.2.1).length = 16 := (getHH_ok (ok_set (putH_ok plainH_ok) ((List.length_set ..).trans (row64 (putH_ok plainH_ok) hlj88)))).s1.2.1
    have hsl336_18 : ((getHH ((putH plainH).set 7 (((putH plainH).getD 7 []).set 63 ((((putH plainH).getD 7 (List.replicate 64 (0 : UInt8))).getD 63 0) ^^^ 1)))).s1.2.2.2.1).length = 32 := (getHH_ok (ok_set (putH_ok plainH_ok) ((List.length_set ..).trans (row64 (putH_ok plainH_ok) hlj88)))).s1.2.2.1
    have hsl336_19 : ((getHH ((putH plainH).set 7 (((putH plainH).getD 7 []).set 63 ((((putH plainH).getD 7 (List.replicate 64 (0 : UInt8))).getD 63 0) ^^^ 1)))).s1.2.2.2.2).length = 32 := (getHH_ok (ok_set (putH_ok plainH_ok) ((List.length_set ..).trans (row64 (putH_ok plainH_ok) hlj88)))).s1.2.2.2
    have hsl336_22 : ((getHH ((putH plainH).set 7 (((putH plainH).getD 7 []).set 63 ((((putH plainH).getD 7 (List.replicate 64 (0 : UInt8))).getD 63 0) ^^^ 1)))).s2.2.2.1).length = 16 := (getHH_ok (ok_set (putH_ok plainH_ok) ((List.length_set ..).trans (row64 (putH_ok plainH_ok) hlj88)))).s2.2.1
    have hsl336_23 : ((getHH ((putH plainH).set 7 (((putH plainH).getD 7 []).set 63 ((((putH plainH).getD 7 (List.replicate 64 (0 : UInt8))).getD 63 0) ^^^ 1)))).s2.2.2.2.1).length = 32 := (getHH_ok (ok_set (putH_ok plainH_ok) ((List.length_set ..).trans (row64 (putH_ok plainH_ok) hlj88)))).s2.2.2.1
    have hsl336_24 : ((getHH ((putH plainH).set 7 (((putH plainH).getD 7 []).set 63 ((((putH plainH).getD 7 (List.replicate 64 (0 : UInt8))).getD 63 0) ^^^ 1)))).s2.2.2.2.2).length = 32 := (getHH_ok (ok_set (putH_ok plainH_ok) ((List.length_set ..).trans (row64 (putH_ok plainH_ok) hlj88)))).s2.2.2.2
    have hsl336_27 : ((getHH ((putH plainH).set 7 (((putH plainH).getD 7 []).set 63 ((((putH plainH).getD 7 (List.replicate 64 (0 : UInt8))).getD 63 0) ^^^ 1)))).s3.2.2.1).length = 16 := (getHH_ok (ok_set (putH_ok plainH_ok) ((List.length_set ..).trans (row64 (putH_ok plainH_ok) hlj88)))).s3.2.1
    have hsl336_28 : ((getHH ((putH plainH).set 7 (((putH plainH).getD 7 []).set 63 ((((putH plainH).getD 7 (List.replicate 64 (0 : UInt8))).getD 63 0) ^^^ 1)))).s3.2.2.2.1).length = 32 := (getHH_ok (ok_set (putH_ok plainH_ok) ((List.length_set ..).trans (row64 (putH_ok plainH_ok) hlj88)))).s3.2.2.1
    have hsl336_29 : ((getHH ((putH plainH).set 7 (((putH plainH).getD 7 []).set 63 ((((putH plainH).getD 7 (List.replicate 64 (0 : UInt8))).getD 63 0) ^^^ 1)))).s3.2.2.2.2).length = 32 := (getHH_ok (ok_set (putH_ok plainH_ok) ((List.length_set ..).trans (row64 (putH_ok plainH_ok) hlj88)))).s3.2.2.2
    refine s_storeSegs 0 30 (vss := [[.int .i64 ((getHH ((putH plainH).set 7 (((putH plainH).getD 7 []).set 63 ((((putH plainH).getD 7 (List.replicate 64 (0 : UInt8))).getD 63 0) ^^^ 1)))).m)], [.int .i64 ((getHH ((putH plainH).set 7 (((putH plainH).getD 7 []).set 63 ((((putH plainH).getD 7 (List.replicate 64 (0 : UInt8))).getD 63 0) ^^^ 1)))).r)], [.bool ((getHH ((putH plainH).set 7 (((putH plainH).getD 7 []).set 63 ((((putH plainH).getD 7 (List.replicate 64 (0 : UInt8))).getD 63 0) ^^^ 1)))).v0.1)], [.int .u64 (((getHH ((putH plainH).set 7 (((putH plainH).getD 7 []).set 63 ((((putH plainH).getD 7 (List.replicate 64 (0 : UInt8))).getD 63 0) ^^^ 1)))).v0.2.1 : Nat) : Int)], bv ((getHH ((putH plainH).set 7 (((putH plainH).getD 7 []).set 63 ((((putH plainH).getD 7 (List.replicate 64 (0 : UInt8))).getD 63 0) ^^^ 1)))).v0.2.2.1), bv ((getHH ((putH plainH).set 7 (((putH plainH).getD 7 []).set 63 ((((putH plainH).getD 7 (List.replicate 64 (0 : UInt8))).getD 63 0) ^^^ 1)))).v0.2.2.2), [.bool ((getHH ((putH plainH).set 7 (((putH plainH).getD 7 []).set 63 ((((putH plainH).getD 7 (List.replicate 64 (0 : UInt8))).getD 63 0) ^^^ 1)))).v1.1)], [.int .u64 (((getHH ((putH plainH).set 7 (((putH plainH).getD 7 []).set 63 ((((putH plainH).getD 7 (List.replicate 64 (0 : UInt8))).getD 63 0) ^^^ 1)))).v1.2.1 : Nat) : Int)], bv ((getHH ((putH plainH).set 7 (((putH plainH).getD 7 []).set 63 ((((putH plainH).getD 7 (List.replicate 64 (0 : UInt8))).getD 63 0) ^^^ 1)))).v1.2.2.1), bv ((getHH ((putH plainH).set 7 (((putH plainH).getD 7 []).set 63 ((((putH plainH).getD 7 (List.replicate 64 (0 : UInt8))).getD 63 0) ^^^ 1)))).v1.2.2.2), [.bool ((getHH ((putH plainH).set 7 (((putH plainH).getD 7 []).set 63 ((((putH plainH).getD 7 (List.replicate 64 (0 : UInt8))).getD 63 0) ^^^ 1)))).s0.1)], [.int .i64 ((getHH ((putH plainH).set 7 (((putH plainH).getD 7 []).set 63 ((((putH plainH).getD 7 (List.replicate 64 (0 : UInt8))).getD 63 0) ^^^ 1)))).s0.2.1)], bv ((getHH ((putH plainH).set 7 (((putH plainH).getD 7 []).set 63 ((((putH plainH).getD 7 (List.replicate 64 (0 : UInt8))).getD 63 0) ^^^ 1)))).s0.2.2.1), bv ((getHH ((putH plainH).set 7 (((putH plainH).getD 7 []).set 63 ((((putH plainH).getD 7 (List.replicate 64 (0 : UInt8))).getD 63 0) ^^^ 1)))).s0.2.2.2.1), bv ((getHH ((putH plainH).set 7 (((putH plainH).getD 7 []).set 63 ((((putH plainH).getD 7 (List.replicate 64 (0 : UInt8))).getD 63 0) ^^^ 1)))).s0.2.2.2.2), [.bool ((getHH ((putH plainH).set 7 (((putH plainH).getD 7 []).set 63 ((((putH plainH).getD 7 (List.replicate 64 (0 : UInt8))).getD 63 0) ^^^ 1)))).s1.1)], [.int .i64 ((getHH ((putH plainH).set 7 (((putH plainH).getD 7 []).set 63 ((((putH plainH).getD 7 (List.replicate 64 (0 : UInt8))).getD 63 0) ^^^ 1)))).s1.2.1)], bv ((getHH ((putH plainH).set 7 (((putH plainH).getD 7 []).set 63 ((((putH plainH).getD 7 (List.replicate 64 (0 : UInt8))).getD 63 0) ^^^ 1)))).s1.2.2.1), bv ((getHH ((putH plainH).set 7 (((putH plainH).getD 7 []).set 63 ((((putH plainH).getD 7 (List.replicate 64 (0 : UInt8))).getD 63 0) ^^^ 1)))).s1.2.2.2.1), bv ((getHH ((putH plainH).set 7 (((putH plainH).getD 7 []).set 63 ((((putH plainH).getD 7 (List.replicate 64 (0 : UInt8))).getD 63 0) ^^^ 1)))).s1.2.2.2.2), [.bool ((getHH ((putH plainH).set 7 (((putH plainH).getD 7 []).set 63 ((((putH plainH).getD 7 (List.replicate 64 (0 : UInt8))).getD 63 0) ^^^ 1)))).s2.1)], [.int .i64 ((getHH ((putH plainH).set 7 (((putH plainH).getD 7 []).set 63 ((((putH plainH).getD 7 (List.replicate 64 (0 : UInt8))).getD 63 0) ^^^ 1)))).s2.2.1)], bv ((getHH ((putH plainH).set 7 (((putH plainH).getD 7 []).set 63 ((((putH plainH).getD 7 (List.replicate 64 (0 : UInt8))).getD 63 0) ^^^ 1)))).s2.2.2.1), bv ((getHH ((putH plainH).set 7 (((putH plainH).getD 7 []).set 63 ((((putH plainH).getD 7 (List.replicate 64 (0 : UInt8))).getD 63 0) ^^^ 1)))).s2.2.2.2.1), bv ((getHH ((putH plainH).set 7 (((putH plainH).getD 7 []).set 63 ((((putH plainH).getD 7 (List.replicate 64 (0 : UInt8))).getD 63 0) ^^^ 1)))).s2.2.2.2.2), [.bool ((getHH ((putH plainH).set 7 (((putH plainH).getD 7 []).set 63 ((((putH plainH).getD 7 (List.replicate 64 (0 : UInt8))).getD 63 0) ^^^ 1)))).s3.1)], [.int .i64 ((getHH ((putH plainH).set 7 (((putH plainH).getD 7 []).set 63 ((((putH plainH).getD 7 (List.replicate 64 (0 : UInt8))).getD 63 0) ^^^ 1)))).s3.2.1)], bv ((getHH ((putH plainH).set 7 (((putH plainH).getD 7 []).set 63 ((((putH plainH).getD 7 (List.replicate 64 (0 : UInt8))).getD 63 0) ^^^ 1)))).s3.2.2.1), bv ((getHH ((putH plainH).set 7 (((putH plainH).getD 7 []).set 63 ((((putH plainH).getD 7 (List.replicate 64 (0 : UInt8))).getD 63 0) ^^^ 1)))).s3.2.2.2.1), bv ((getHH ((putH plainH).set 7 (((putH plainH).getD 7 []).set 63 ((((putH plainH).getD 7 (List.replicate 64 (0 : UInt8))).getD 63 0) ^^^ 1)))).s3.2.2.2.2)]) hE rfl rfl hM rfl sz39 (by simp only [List.take_succ_cons, List.take_zero, List.drop_zero, List.drop_succ_cons]; simp only [List.map_cons, List.map_nil, bv_length, List.length_cons, List.length_nil, List.length_replicate, hsl336_4, hsl336_5, hsl336_8, hsl336_9, hsl336_12, hsl336_13, hsl336_14, hsl336_17, hsl336_18, hsl336_19, hsl336_22, hsl336_23, hsl336_24, hsl336_27, hsl336_28, hsl336_29]) (by decide) rfl (one_fl ⟨one1 rfl, one1 rfl, one1 rfl, one1 rfl, bv_one _, bv_one _, one1 rfl, one1 rfl, bv_one _, bv_one _, one1 rfl, one1 rfl, bv_one _, bv_one _, bv_one _, one1 rfl, one1 rfl, bv_one _, bv_one _, bv_one _, one1 rfl, one1 rfl, bv_one _, bv_one _, bv_one _, one1 rfl, one1 rfl, bv_one _, bv_one _, bv_one _, trivial⟩) rfl (by intro X h; cases h) ?_; intro w31 hM'; clear hM; have hM := hM'; clear hM'
    try simp only [List.take_zero, List.take_succ_cons, List.drop_zero, List.drop_succ_cons, List.take_nil, List.drop_nil, List.nil_append, List.append_nil, List.cons_append] at hM
    refine s_assign hE rfl rfl ?_; clear hE a; intro a hE
    refine q_nil ?_
    replace hE : Env a 170 [(0, _), (1, _), (2, _), (3, _), (4, _), (5, _), (6, _), (7, _), (9, _), (11, _), (13, _), (15, _), (16, _), (18, _), (41, _)] := hE.sel [0, 1, 2, 3, 4, 5, 6, 7, 9, 11, 13, 15, 16, 18, 41] rfl
    refine hK18 _ _ ?_
    refine wp_seq_k (fun K19 hK19 => ?_)
    refine wp_plain [true, true, false, true, true, true, false, false, true] rfl rfl ?_
    refine s_move hE rfl rfl ?_; clear hE a; intro a hE
    refine s_sliceTo (l := 7) hE rfl (hM.get 11 rfl) slt40 ⟨_, rfl⟩ (by first | omega | (simp; omega) | decide +kernel) rfl ?_; clear hE a; intro a hE
    obtain ⟨cs4, hs4⟩ := own_subRow (h := 7) (hM.get 11 rfl) (fun x hx => ((bv_length _).trans ((putH_ok plainH_ok) x hx))) (by first | omega | (simp; omega) | decide +kernel)
    refine s_call hE rfl Try.call14 (hget_a _ ((putH plainH).take 7) _ _ hs4 (ok_take (putH_ok plainH_ok)) (by decide +kernel)) rfl ?_
    rintro e w32 ⟨rfl, hN⟩
    refine ⟨_, rfl, trivial, ?_⟩; clear hE a; intro a hE
    replace hM : Mem _ _ w32 [_, _, _, _, _, _, _, _, _, _, _, _] := hM.call0 hN trivial; clear hN
    refine s_move hE rfl rfl ?_; clear hE a; intro a hE
    refine s_extract hE rfl rfl rfl ?_; clear hE a; intro a hE
    refine s_extract hE rfl rfl rfl ?_; clear hE a; intro a hE
    refine s_alloc [1, 1, 1, 1, 32, 32, 1, 1, 32, 32, 1, 1, 16, 32, 32, 1, 1, 16, 32, 32, 1, 1, 16, 32, 32, 1, 1, 16, 32, 32] hE hM zeroL39 rfl rfl ?_; clear hE a; intro a b19 w33 hE hM'
    clear hM; have hM := hM'; clear hM'
    have hsl372_4 : ((getHH ((putH plainH).take 7)).v0.2.2.1).length = 32 := (getHH_ok (ok_take (putH_ok plainH_ok))).v0.2.1
    have hsl372_5 : ((getHH ((putH plainH).take 7)).v0.2.2.2).length = 32 := (getHH_ok (ok_take (putH_ok plainH_ok))).v0.2.2
    have hsl372_8 : ((getHH ((putH plainH).take 7)).v1.2.2.1).length = 32 := (getHH_ok (ok_take (putH_ok plainH_ok))).v1.2.1
    have hsl372_9 : ((getHH ((putH plainH).take 7)).v1.2.2.2).length = 32 := (getHH_ok (ok_take (putH_ok plainH_ok))).v1.2.2
    have hsl372_12 : ((getHH ((putH plainH).take 7)).s0.2.2.1).length = 16 := (getHH_ok (ok_take (putH_ok plainH_ok))).s0.2.1
    have hsl372_13 : ((getHH ((putH plainH).take 7)).s0.2.2.2.1).length = 32 := (getHH_ok (ok_take (putH_ok plainH_ok))).s0.2.2.1
    have hsl372_14 : ((getHH ((putH plainH).take 7)).s0.2.2.2.2).length = 32 := (getHH_ok (ok_take (putH_ok plainH_ok))).s0.2.2.2
    have hsl372_17 : ((getHH ((putH plainH).take 7)).s1.2.2.1).length = 16 := (getHH_ok (ok_take (putH_ok plainH_ok))).s1.2.1
    have hsl372_18 : ((getHH ((putH plainH).take 7)).s1.2.2.2.1).length = 32 := (getHH_ok (ok_take (putH_ok plainH_ok))).s1.2.2.1
    have hsl372_19 : ((getHH ((putH plainH).take 7)).s1.2.2.2.2).length = 32 := (getHH_ok (ok_take (putH_ok plainH_ok))).s1.2.2.2
    have hsl372_22 : ((getHH ((putH plainH).take 7)).s2.2.2.1).length = 16 := (getHH_ok (ok_take (putH_ok plainH_ok))).s2.2.1
    have hsl372_23 : ((getHH ((putH plainH).take 7)).s2.2.2.2.1).length = 32 := (getHH_ok (ok_take (putH_ok plainH_ok))).s2.2.2.1
    have hsl372_24 : ((getHH ((putH plainH).take 7)).s2.2.2.2.2).length = 32 := (getHH_ok (ok_take (putH_ok plainH_ok))).s2.2.2.2
    have hsl372_27 : ((getHH ((putH plainH).take 7)).s3.2.2.1).length = 16 := (getHH_ok (ok_take (putH_ok plainH_ok))).s3.2.1
    have hsl372_28 : ((getHH ((putH plainH).take 7)).s3.2.2.2.1).length = 32 := (getHH_ok (ok_take (putH_ok plainH_ok))).s3.2.2.1
    have hsl372_29 : ((getHH ((putH plainH).take 7)).s3.2.2.2.2).length = 32 := (getHH_ok (ok_take (putH_ok plainH_ok))).s3.2.2.2
    refine s_storeSegs 0 30 (vss := [[.int .i64 ((getHH ((putH plainH).take 7)).m)], [.int .i64 ((getHH ((putH plainH).take 7)).r)], [.bool ((getHH ((putH plainH).take 7)).v0.1)], [.int .u64 (((getHH ((putH plainH).take 7)).v0.2.1 : Nat) : Int)], bv ((getHH ((putH plainH).take 7)).v0.2.2.1), bv ((getHH ((putH plainH).take 7)).v0.2.2.2), [.bool ((getHH ((putH plainH).take 7)).v1.1)], [.int .u64 (((getHH ((putH plainH).take 7)).v1.2.1 : Nat) : Int)], bv ((getHH ((putH plainH).take 7)).v1.2.2.1), bv ((getHH ((putH plainH).take 7)).v1.2.2.2), [.bool ((getHH ((putH plainH).take 7)).s0.1)], [.int .i64 ((getHH ((putH plainH).take 7)).s0.2.1)], bv ((getHH ((putH plainH).take 7)).s0.2.2.1), bv ((getHH ((putH plainH).take 7)).s0.2.2.2.1), bv ((getHH ((putH plainH).take 7)).s0.2.2.2.2), [.bool ((getHH ((putH plainH).take 7)).s1.1)], [.int .i64 ((getHH ((putH plainH).take 7)).s1.2.1)], bv ((getHH ((putH plainH).take 7)).s1.2.2.1), bv ((getHH ((putH plainH).take 7)).s1.2.2.2.1), bv ((getHH ((putH plainH).take 7)).s1.2.2.2.2), [.bool ((getHH ((putH plainH).take 7)).s2.1)], [.int .i64 ((getHH ((putH plainH).take 7)).s2.2.1)], bv ((getHH ((putH plainH).take 7)).s2.2.2.1), bv ((getHH ((putH plainH).take 7)).s2.2.2.2.1), bv ((getHH ((putH plainH).take 7)).s2.2.2.2.2), [.bool ((getHH ((putH plainH).take 7)).s3.1)], [.int .i64 ((getHH ((putH plainH).take 7)).s3.2.1)], bv ((getHH ((putH plainH).take 7)).s3.2.2.1), bv ((getHH ((putH plainH).take 7)).s3.2.2.2.1), bv ((getHH ((putH plainH).take 7)).s3.2.2.2.2)]) hE rfl rfl hM rfl sz39 (by simp only [List.take_succ_cons, List.take_zero, List.drop_zero, List.drop_succ_cons]; simp only [List.map_cons, List.map_nil, bv_length, List.length_cons, List.length_nil, List.length_replicate, hsl372_4, hsl372_5, hsl372_8, hsl372_9, hsl372_12, hsl372_13, hsl372_14, hsl372_17, hsl372_18, hsl372_19, hsl372_22, hsl372_23, hsl372_24, hsl372_27, hsl372_28, hsl372_29]) (by decide) rfl (one_fl ⟨one1 rfl, one1 rfl, one1 rfl, one1 rfl, bv_one _, bv_one _, one1 rfl, one1 rfl, bv_one _, bv_one _, one1 rfl, one1 rfl, bv_one _, bv_one _, bv_one _, one1 rfl, one1 rfl, bv_one _, bv_one _, bv_one _, one1 rfl, one1 rfl, bv_one _, bv_one _, bv_one _, one1 rfl, one1 rfl, bv_one _, bv_one _, bv_one _, trivial⟩) rfl (by intro X h; cases h) ?_; intro w34 hM'; clear hM; have hM := hM'; clear hM'
    try simp only [List.take_zero, List.take_succ_cons, List.drop_zero, List.drop_succ_cons, List.take_nil, List.drop_nil, List.nil_append, List.append_nil, List.cons_append] at hM
    refine s_assign hE rfl rfl ?_; clear hE a; intro a hE
    refine q_nil ?_
    replace hE : Env a 170 [(0, _), (1, _), (2, _), (3, _), (4, _), (5, _), (6, _), (7, _), (9, _), (11, _), (13, _), (15, _), (16, _), (18, _), (20, _), (41, _)] := hE.sel [0, 1, 2, 3, 4, 5, 6, 7, 9, 11, 13, 15, 16, 18, 20, 41] rfl
    refine hK19 _ _ ?_
    refine wp_seq_k (fun K20 hK20 => ?_)
    refine wp_plain [false, false, false] rfl rfl ?_
    refine s_call hE rfl Try.call18 (plain24_c  _ ) rfl ?_
    rintro e w35 ⟨rfl, hN⟩
    refine ⟨_, rfl, trivial, ?_⟩; clear hE a; intro a hE
    replace hM : Mem _ _ w35 [_, _, _, _, _, _, _, _, _, _, _, _, _] := hM.call0 hN trivial; clear hN
    refine s_alloc [1, 1, 1, 1, 32, 32, 1, 1, 32, 32, 1, 1, 16, 32, 32, 1, 1, 16, 32, 32, 1, 1, 16, 32, 32, 1, 1, 16, 32, 32] hE hM zeroL39 rfl rfl ?_; clear hE a; intro a b21 w36 hE hM'
    clear hM; have hM := hM'; clear hM'
    have hsl402_4 : plainH.v0.2.2.1.length = 32 := plainH_ok.v0.2.1
    have hsl402_5 : plainH.v0.2.2.2.length = 32 := plainH_ok.v0.2.2
    have hsl402_8 : plainH.v1.2.2.1.length = 32 := plainH_ok.v1.2.1
    have hsl402_9 : plainH.v1.2.2.2.length = 32 := plainH_ok.v1.2.2
    have hsl402_12 : plainH.s0.2.2.1.length = 16 := plainH_ok.s0.2.1
    have hsl402_13 : plainH.s0.2.2.2.1.length = 32 := plainH_ok.s0.2.2.1
    have hsl402_14 : plainH.s0.2.2.2.2.length = 32 := plainH_ok.s0.2.2.2
    have hsl402_17 : plainH.s1.2.2.1.length = 16 := plainH_ok.s1.2.1
    have hsl402_18 : plainH.s1.2.2.2.1.length = 32 := plainH_ok.s1.2.2.1
    have hsl402_19 : plainH.s1.2.2.2.2.length = 32 := plainH_ok.s1.2.2.2
    have hsl402_22 : plainH.s2.2.2.1.length = 16 := plainH_ok.s2.2.1
    have hsl402_23 : plainH.s2.2.2.2.1.length = 32 := plainH_ok.s2.2.2.1
    have hsl402_24 : plainH.s2.2.2.2.2.length = 32 := plainH_ok.s2.2.2.2
    have hsl402_27 : plainH.s3.2.2.1.length = 16 := plainH_ok.s3.2.1
    have hsl402_28 : plainH.s3.2.2.2.1.length = 32 := plainH_ok.s3.2.2.1
    have hsl402_29 : plainH.s3.2.2.2.2.length = 32 := plainH_ok.s3.2.2.2
    refine s_storeSegs 0 30 (vss := [[.int .i64 plainH.m], [.int .i64 plainH.r], [.bool plainH.v0.1], [.int .u64 ((plainH.v0.2.1 : Nat) : Int)], bv plainH.v0.2.2.1, bv plainH.v0.2.2.2, [.bool plainH.v1.1], [.int .u64 ((plainH.v1.2.1 : Nat) : Int)], bv plainH.v1.2.2.1, bv plainH.v1.2.2.2, [.bool plainH.s0.1], [.int .i64 plainH.s0.2.1], bv plainH.s0.2.2.1, bv plainH.s0.2.2.2.1, bv plainH.s0.2.2.2.2, [.bool plainH.s1.1], [.int .i64 plainH.s1.2.1], bv plainH.s1.2.2.1, bv plainH.s1.2.2.2.1, bv plainH.s1.2.2.2.2, [.bool plainH.s2.1], [.int .i64 plainH.s2.2.1], bv plainH.s2.2.2.1, bv plainH.s2.2.2.2.1, bv plainH.s2.2.2.2.2, [.bool plainH.s3.1], [.int .i64 plainH.s3.2.1], bv plainH.s3.2.2.1, bv plainH.s3.2.2.2.1, bv plainH.s3.2.2.2.2]) hE rfl rfl hM rfl sz39 (by simp only [List.take_succ_cons, List.take_zero, List.drop_zero, List.drop_succ_cons]; simp only [List.map_cons, List.map_nil, bv_length, List.length_cons, List.length_nil, List.length_replicate, hsl402_4, hsl402_5, hsl402_8, hsl402_9, hsl402_12, hsl402_13, hsl402_14, hsl402_17, hsl402_18, hsl402_19, hsl402_22, hsl402_23, hsl402_24, hsl402_27, hsl402_28, hsl402_29]) (by decide) rfl (one_fl ⟨one1 rfl, one1 rfl, one1 rfl, one1 rfl, bv_one _, bv_one _, one1 rfl, one1 rfl, bv_one _, bv_one _, one1 rfl, one1 rfl, bv_one _, bv_one _, bv_one _, one1 rfl, one1 rfl, bv_one _, bv_one _, bv_one _, one1 rfl, one1 rfl, bv_one _, bv_one _, bv_one _, one1 rfl, one1 rfl, bv_one _, bv_one _, bv_one _, trivial⟩) rfl (by intro X h; cases h) ?_; intro w37 hM'; clear hM; have hM := hM'; clear hM'
    try simp only [List.take_zero, List.take_succ_cons, List.drop_zero, List.drop_succ_cons, List.take_nil, List.drop_nil, List.nil_append, List.append_nil, List.cons_append] at hM
    refine q_nil ?_
    replace hE : Env a 170 [(0, _), (1, _), (2, _), (3, _), (4, _), (5, _), (6, _), (7, _), (9, _), (11, _), (13, _), (15, _), (16, _), (18, _), (20, _), (21, _), (41, _)] := hE.sel [0, 1, 2, 3, 4, 5, 6, 7, 9, 11, 13, 15, 16, 18, 20, 21, 41] rfl
    refine hK20 _ _ ?_
    refine wp_seq_k (fun K21 hK21 => ?_)
    refine wp_plain [true, true, true, false] rfl rfl ?_
    refine s_fieldAddr hE rfl fo39_2 rfl ?_; clear hE a; intro a hE
    refine s_indexArr (j := 3) hE rfl rfl arr37 rfl (by decide) rfl ?_; clear hE a; intro a hE
    refine s_fieldAddr hE rfl fo36_0 rfl ?_; clear hE a; intro a hE
    refine s_store1 25 hE rfl rfl hM rfl rfl sz4 rfl rfl (by intro X h; cases h) ?_; intro w38 hM'; clear hM; have hM := hM'; clear hM'
    refine q_nil ?_
    replace hE : Env a 170 [(0, _), (1, _), (2, _), (3, _), (4, _), (5, _), (6, _), (7, _), (9, _), (11, _), (13, _), (15, _), (16, _), (18, _), (20, _), (21, _), (41, _)] := hE.sel [0, 1, 2, 3, 4, 5, 6, 7, 9, 11, 13, 15, 16, 18, 20, 21, 41] rfl
    refine hK21 _ _ ?_
    refine wp_seq_k (fun K22 hK22 => ?_)
    refine wp_plain [true, true, true, false] rfl rfl ?_
    refine s_fieldAddr hE rfl fo39_2 rfl ?_; clear hE a; intro a hE
    refine s_indexArr (j := 3) hE rfl rfl arr37 rfl (by decide) rfl ?_; clear hE a; intro a hE
    refine s_fieldAddr hE rfl fo36_1 rfl ?_; clear hE a; intro a hE
    refine s_store1 26 hE rfl rfl hM rfl rfl sz3 rfl rfl (by intro X h; cases h) ?_; intro w39 hM'; clear hM; have hM := hM'; clear hM'
    refine q_nil ?_
    replace hE : Env a 170 [(0, _), (1, _), (2, _), (3, _), (4, _), (5, _), (6, _), (7, _), (9, _), (11, _), (13, _), (15, _), (16, _), (18, _), (20, _), (21, _), (41, _)] := hE.sel [0, 1, 2, 3, 4, 5, 6, 7, 9, 11, 13, 15, 16, 18, 20, 21, 41] rfl
    refine hK22 _ _ ?_
    refine wp_seq_k (fun K23 hK23 => ?_)
    refine wp_plain [true, false, true, true, true, true, true] rfl rfl ?_
    refine s_loadN hE rfl (hM.get 0 rfl) row39 rfl (by intro X h; cases h) rfl ?_; clear hE a; intro a hE
    replace hE := hE.cast 109 rfl (show _ = Value.agg ([[.int .i64 plainH.m], [.int .i64 plainH.r], [.bool plainH.v0.1], [.int .u64 ((plainH.v0.2.1 : Nat) : Int)], bv plainH.v0.2.2.1, bv plainH.v0.2.2.2, [.bool plainH.v1.1], [.int .u64 ((plainH.v1.2.1 : Nat) : Int)], bv plainH.v1.2.2.1, bv plainH.v1.2.2.2, [.bool plainH.s0.1], [.int .i64 plainH.s0.2.1], bv plainH.s0.2.2.1, bv plainH.s0.2.2.2.1, bv plainH.s0.2.2.2.2, [.bool plainH.s1.1], [.int .i64 plainH.s1.2.1], bv plainH.s1.2.2.1, bv plainH.s1.2.2.2.1, bv plainH.s1.2.2.2.2, [.bool plainH.s2.1], [.int .i64 plainH.s2.2.1], bv plainH.s2.2.2.1, bv plainH.s2.2.2.2.1, bv plainH.s2.2.2.2.2, [.bool true], [.int .i64 4096], bv plainH.s3.2.2.1, bv plainH.s3.2.2.2.1, bv plainH.s3.2.2.2.2] : List (List Value)).flatten.toArray from (by first | rfl | simp only [List.flatten_cons, List.flatten_nil, List.append_nil, List.append_assoc]))
    refine s_call hE rfl Try.call8 (hput_a mostH _ mostH_ok) rfl ?_
    rintro e w40 ⟨v110_0, rfl, hN⟩
    refine ⟨_, rfl, trivial, ?_⟩; clear hE a; intro a hE
    replace hM : Mem _ _ w40 [_, _, _, _, _, _, _, _, _, _, _, _, _, _, _] := hM.call0 hN ⟨rfl, trivial⟩; clear hN
    refine s_move hE rfl rfl ?_; clear hE a; intro a hE
    refine s_extract hE rfl rfl rfl ?_; clear hE a; intro a hE
    refine s_extract hE rfl rfl rfl ?_; clear hE a; intro a hE
    refine s_assign hE rfl rfl ?_; clear hE a; intro a hE
    refine s_assign hE rfl rfl ?_; clear hE a; intro a hE
    refine q_nil ?_
    replace hE : Env a 170 [(0, _), (1, _), (2, _), (3, _), (4, _), (5, _), (6, _), (7, _), (9, _), (11, _), (13, _), (15, _), (16, _), (18, _), (20, _), (21, _), (22, _), (23, _), (41, _)] := hE.sel [0, 1, 2, 3, 4, 5, 6, 7, 9, 11, 13, 15, 16, 18, 20, 21, 22, 23, 41] rfl
    refine hK23 _ _ ?_
    refine wp_seq_k (fun K24 hK24 => ?_)
    refine wp_seq_k (fun K25 hK25 => ?_)
    refine wp_plain [true, true] rfl rfl ?_
    refine s_move hE rfl rfl ?_; clear hE a; intro a hE
    refine s_bin hE rfl rfl bin_neq rfl ?_; clear hE a; intro a hE
    refine q_nil ?_
    replace hE : Env a 170 [(0, _), (1, _), (2, _), (3, _), (4, _), (5, _), (6, _), (7, _), (9, _), (11, _), (13, _), (15, _), (16, _), (18, _), (20, _), (21, _), (22, _), (41, _), (114, _)] := hE.sel [0, 1, 2, 3, 4, 5, 6, 7, 9, 11, 13, 15, 16, 18, 20, 21, 22, 41, 114] rfl
    refine hK25 _ _ ?_
    replace hE := hE.cast 114 rfl (show _ = Value.bool false from (congrArg Value.bool (by first | (with_reducible exact decide_eq_true rfl) | decide +kernel | (simp; done))))
    refine wp_cond_false (hE.eval rfl) ?_
    refine wp_skip ?_
    refine hK24 _ _ ?_
    refine wp_seq_k (fun K26 hK26 => ?_)
    refine wp_plain [true] rfl rfl ?_
    refine s_assign hE rfl rfl ?_; clear hE a; intro a hE
    refine q_nil ?_
    refine hK26 _ _ ?_
    refine wp_seq_k (fun K27 hK27 => ?_)
    refine wp_treeM hM (by kernel_rfl) (fun _ => True) (fun _ => True) (.re [(0, true), (1, true), (2, true), (3, true), (4, true), (5, true), (6, true), (9, true), (7, true), (8, true), (10, true), (11, false)] (.fl 8 (.weak (.fl 3 (.cut (.or 11 (.cut (.re [] (.weak (.leaf 0)))) (.stop))))))) [(0, true), (1, true), (2, true), (3, true), (4, true), (5, true), (6, true), (9, true), (7, true), (8, true), (10, true), (11, false)] [(2, [(5, 2), (6, 5), (7, 6), (8, 7), (9, 2), (10, 2), (11, 2)]), (4, [(6, 4), (7, 6), (8, 7), (10, 4), (11, 4)]), (5, [(6, 5), (7, 6), (8, 7), (10, 5), (11, 5)]), (6, [(7, 6), (8, 7), (10, 6), (11, 6)]), (7, [(8, 7), (10, 7), (11, 7)]), (8, [(10, 8), (11, 8)]), (9, [(10, 9), (11, 10)]), (10, [(11, 10)]), (11, [])] (by kernel_rfl) ?_
    intro w41 hM' hww41; clear hM; have hM := hM'; clear hM'
    refine o_re ?_
    refine o_fl rfl ?_
    refine s_move hE rfl rfl ?_; clear hE a; intro a hE
    refine s_move hE rfl rfl ?_; clear hE a; intro a hE
    refine s_bin hE rfl rfl (bin_quo_nat (m := 415) (s := 64) (by decide) (wrap_i64 (by omega) (by omega))) rfl ?_; clear hE a; intro a hE
    refine s_move hE rfl rfl ?_; clear hE a; intro a hE
    refine s_bin hE rfl rfl (bin_rem_nat (m := 415) (s := 64) (by decide)) rfl ?_; clear hE a; intro a hE
    have hlj120 : 415 / 64 < (putH mostH).length := (by decide +kernel)
    refine s_indexOwn (j := 415 / 64) hE rfl (hM.get 0 rfl) rfl slt40 (by first | rfl | omega) hlj120 rfl ?_; clear hE a; intro a hE hc120
    rw [flat_elem (d := (List.replicate 64 (0 : UInt8))) (fun x hx => ((bv_length _).trans ((putH_ok mostH_ok) x hx))) hlj120] at hc120
    refine s_indexElem (j := 415 % 64) (q := ((415 / 64) * 64 + (415 % 64))) hE rfl (hM.get 0 rfl) (by have := hlj120; omega) hc120 rfl arr59 (by first | rfl | omega) (by first | omega | decide) (row64 (putH_ok mostH_ok) hlj120) rfl rfl ?_; clear hE a; intro a hE hc121
    have hlj124 : 415 / 64 < (putH mostH).length := (by decide +kernel)
    refine s_indexOwn (j := 415 / 64) hE rfl (hM.get 0 rfl) rfl slt40 (by first | rfl | omega) hlj124 rfl ?_; clear hE a; intro a hE hc124
    rw [flat_elem (d := (List.replicate 64 (0 : UInt8))) (fun x hx => ((bv_length _).trans ((putH_ok mostH_ok) x hx))) hlj124] at hc124
    refine q_nil (q_nx ?_)
    refine o_weak (fun _ => False) (fun _ _ => trivial) ?_
    refine o_fl rfl ?_
    refine s_loadAt1 hE rfl hc121 one5 (by intro X h; cases h; simp) rfl ?_; clear hE a; intro a hE
    refine s_bin hE rfl rfl (bin_inc_u8 (b := ((putH mostH).getD (415 / 64) (List.replicate 64 (0 : UInt8))).getD (415 % 64) 0)) rfl ?_; clear hE a; intro a hE
    refine s_indexElem (j := 415 % 64) (q := ((415 / 64) * 64 + (415 % 64))) hE rfl (hM.get 0 rfl) (by have := hlj124; omega) hc124 rfl arr59 (by first | rfl | omega) (by first | omega | decide) (row64 (putH_ok mostH_ok) hlj124) rfl rfl ?_; clear hE a; intro a hE hc125
    refine q_nil (q_nx ?_)
    refine o_cut (fun b => b ∈ valBlocks v110_0) ?_
    refine o_or rfl ?_ ?_
    · refine s_storeOwn (vs := [_]) hE rfl rfl hM rfl sz5 rfl (one1 rfl) (by have := hlj124; simp only [List.length_cons, List.length_nil]; omega) (by have := hlj124; omega) (by intro X h; cases h; exact fun _ hb => hb) ?_; intro w42 hM'; clear hM; have hM := hM'; clear hM'
      replace hM := Mem.rowsWr1 (ls := putH mostH) (x := (((putH mostH).getD (415 / 64) (List.replicate 64 (0 : UInt8))).getD (415 % 64) 0) + 1) (j := 415 / 64) (k := 415 % 64) hM rfl (putH_ok mostH_ok) hlj124 (by first | omega | decide)
      refine q_nil (q_nx ?_)
      refine o_cut (fun _ => True) ?_
      refine o_re ?_
      refine o_weak (fun _ => False) (fun _ _ => trivial) ?_
      refine o_leaf rfl rfl ?_
      refine q_nil (q_ph (q_nil ?_))
      replace hE : Env a 170 [(0, _), (1, _), (2, _), (3, _), (4, _), (5, _), (6, _), (7, _), (9, _), (11, _), (13, _), (15, _), (16, _), (18, _), (20, _), (21, _), (22, _), (41, _), (114, _)] := hE.sel [0, 1, 2, 3, 4, 5, 6, 7, 9, 11, 13, 15, 16, 18, 20, 21, 22, 41, 114] rfl
      refine hK27 _ _ ?_
      refine wp_seq_k (fun K28 hK28 => ?_)
      refine wp_plain [true, false, true, true, true, false, false, true] rfl rfl ?_
      refine s_move hE rfl rfl ?_; clear hE a; intro a hE
      obtain ⟨cq5, hq5⟩ := own_rd (hM.get 0 rfl)
      refine s_call hE rfl Try.call14 (hget_a _ ((putH mostH).set (415 / 64) (((putH mostH).getD (415 / 64) []).set (415 % 64) ((((putH mostH).getD (415 / 64) (List.replicate 64 (0 : UInt8))).getD (415 % 64) 0) + 1))) _ _ hq5 (ok_set (putH_ok mostH_ok) ((List.length_set ..).trans (row64 (putH_ok mostH_ok) hlj124))) (by decide +kernel)) rfl ?_
      rintro e w43 ⟨rfl, hN⟩
      refine ⟨_, rfl, trivial, ?_⟩; clear hE a; intro a hE
      replace hM : Mem _ _ w43 [_, _, _, _, _, _, _, _, _, _, _, _, _, _, _] := hM.call0 hN trivial; clear hN
      refine s_move hE rfl rfl ?_; clear hE a; intro a hE
      refine s_extract hE rfl rfl rfl ?_; clear hE a; intro a hE
      refine s_extract hE rfl rfl rfl ?_; clear hE a; intro a hE
      refine s_alloc [1, 1, 1, 1, 32, 32, 1, 1, 32, 32, 1, 1, 16, 32, 32, 1, 1, 16, 32, 32, 1, 1, 16, 32, 32, 1, 1, 16, 32, 32] hE hM zeroL39 rfl rfl ?_; clear hE a; intro a b25 w44 hE hM'
      clear hM; have hM := hM'; clear hM'
      have hsl523_4 : ((getHH ((putH mostH).set (415 / 64) (((putH mostH).getD (415 / 64) []).set (415 % 64) ((((putH mostH).getD (415 / 64) (List.replicate 64 (0 : UInt8))).getD (415 % 64) 0) + 1)))).v0.2.2.1).length = 32 := (getHH_ok (ok_set (putH_ok mostH_ok) ((List.length_set ..).trans (row64 (putH_ok mostH_ok) hlj124)))).v0.2.1
      have hsl523_5 : ((getHH ((putH mostH).set (415 / 64) (((putH mostH).getD (415 / 64) []).set (415 % 64) ((((putH mostH).getD (415 / 64) (List.replicate 64 (0 : UInt8))).getD (415 % 64) 0) + 1)))).v0.2.2.2).length = 32 := (getHH_ok (ok_set (putH_ok mostH_ok) ((List.length_set ..).trans (row64 (putH_ok mostH_ok) hlj124)))).v0.2.2
      have hsl523_8 : ((getHH ((putH mostH).set (415 / 64) (((putH mostH).getD (415 / 64) []).set (415 % 64) ((((putH mostH).getD (415 / 64) (List.replicate 64 (0 : UInt8))).getD (415 % 64) 0) + 1)))).v1.2.2.1).length = 32 := (getHH_ok (ok_set (putH_ok mostH_ok) ((List.length_set ..).trans (row64 (putH_ok mostH_ok) hlj124)))).v1.2.1
      have hsl523_9 : ((getHH ((putH mostH).set (415 / 64) (((putH mostH).getD (415 / 64) []).set (415 % 64) ((((putH mostH).getD (415 / 64) (List.replicate 64 (0 : UInt8))).getD (415 % 64) 0) + 1)))).v1.2.2.2).length = 32 := (getHH_ok (ok_set (putH_ok mostH_ok) ((List.length_set ..).trans (row64 (putH_ok mostH_ok) hlj124)))).v1.2.2
      have hsl523_12 : ((getHH ((putH mostH).set (415 / 64) (((putH mostH).getD (415 / 64) []).set (415 % 64) ((((putH mostH).getD (415 / 64) (List.replicate 64 (0 : UInt8))).getD (415 % 64) 0) + 1)))).s0.2.2.1).length = 16 := (getHH_ok (ok_set (putH_ok mostH_ok) ((List.length_set ..).trans (row64 (putH_ok mostH_ok) hlj124)))).s0.2.1
      have hsl523_13 : ((getHH ((putH mostH).set (415 / 64) (((putH mostH).getD (415 / 64) []).set (415 % 64) ((((putH mostH).getD (415 / 64) (List.replicate 64 (0 : UInt8))).getD (415 % 64) 0) + 1)))).s0.2.2.2.1).length = 32 := (getHH_ok (ok_set (putH_ok mostH_ok) ((List.length_set ..).trans (row64 (putH_ok mostH_ok) hlj124)))).s0.2.2.1
      have hsl523_14 : ((getHH ((putH mostH).set (415 / 64) (((putH mostH).getD (415 / 64) []).set (415 % 64) ((((putH mostH).getD (415 / 64) (List.replicate 64 (0 : UInt8))).getD (415 % 64) 0) + 1)))).s0.2.2.2.2).length = 32 := (getHH_ok (ok_set (putH_ok mostH_ok) ((List.length_set ..).trans (row64 (putH_ok mostH_ok) hlj124)))).s0.2.2.2
      have hsl523_17 : ((getHH ((putH mostH).set (415 / 64) (((putH mostH).getD (415 / 64) []).set (415 % 64) ((((putH mostH).getD (415 / 64) (List.replicate 64 (0 : UInt8))).getD (415 % 64) 0) + 1)))).s1.2.2.1).length = 16 := (getHH_ok (ok_set (putH_ok mostH_ok) ((List.length_set ..).trans (row64 (putH_ok mostH_ok) hlj124)))).s1.2.1
      have hsl523_18 : ((getHH ((putH mostH).set (415 / 64) (((putH mostH).getD (415 / 64) []).set (415 % 64) ((((putH mostH).getD (415 / 64) (List.replicate 64 (0 : UInt8))).getD (415 % 64) 0) + 1)))).s1.2.2.2.1).length = 32 := (getHH_ok (ok_set (putH_ok mostH_ok) ((List.length_set ..).trans (row64 (putH_ok mostH_ok) hlj124)))).s1.2.2.1
      have hsl523_19 : ((getHH ((putH mostH).set (415 / 64) (((putH mostH).getD (415 / 64) []).set (415 % 64) ((((putH mostH).getD (415 / 64) (List.replicate 64 (0 : UInt8))).getD (415 % 64) 0) + 1)))).s1.2.2.2.2).length = 32 := (getHH_ok (ok_set (putH_ok mostH_ok) ((List.length_set ..).trans (row64 (putH_ok mostH_ok) hlj124)))).s1.2.2.2
      have hsl523_22 : ((getHH ((putH mostH).set (415 / 64) (((putH mostH).getD (415 / 64) []).set (415 % 64) ((((putH mostH).getD (415 / 64) (List.replicate 64 (0 : UInt8))).getD (415 % 64) 0) + 1)))).s2.2.2.1).length = 16 := (getHH_ok (ok_set (putH_ok mostH_ok) ((List.length_set ..).trans (row64 (putH_ok mostH_ok) hlj124)))).s2.2.1
      have hsl523_23 : ((getHH ((putH mostH).set (415 / 64) (((putH mostH).getD (415 / 64) []).set (415 % 64) ((((putH mostH).getD (415 / 64) (List.replicate 64 (0 : UInt8))).getD (415 % 64) 0) + 1)))).s2.2.2.2.1).length = 32 := (getHH_ok (ok_set (putH_ok mostH_ok) ((List.length_set ..).trans (row64 (putH_ok mostH_ok) hlj124)))).s2.2.2.1
      have hsl523_24 : ((getHH ((putH mostH).set (415 / 64) (((putH mostH).getD (415 / 64) []).set (415 % 64) ((((putH mostH).getD (415 / 64) (List.replicate 64 (0 : UInt8))).getD (415 % 64) 0) + 1)))).s2.2.2.2.2).length = 32 := (getHH_ok (ok_set (putH_ok mostH_ok) ((List.length_set ..).trans (row64 (putH_ok mostH_ok) hlj124)))).s2.2.2.2
      have hsl523_27 : ((getHH ((putH mostH).set (415 / 64) (((putH mostH).getD (415 / 64) []).set (415 % 64) ((((putH mostH).getD (415 / 64) (List.replicate 64 (0 : UInt8))).getD (415 % 64) 0) + 1)))).s3.2.2.1).length = 16 := (getHH_ok (ok_set (putH_ok mostH_ok) ((List.length_set ..).trans (row64 (putH_ok mostH_ok) hlj124)))).s3.2.1
      have hsl523_28 : ((getHH ((putH mostH).set (415 / 64) (((putH mostH).getD (415 / 64) []).set (415 % 64) ((((putH mostH).getD (415 / 64) (List.replicate 64 (0 : UInt8))).getD (415 % 64) 0) + 1)))).s3.2.2.2.1).length = 32 := (getHH_ok (ok_set (putH_ok mostH_ok) ((List.length_set ..).trans (row64 (putH_ok mostH_ok) hlj124)))).s3.2.2.1
      have hsl523_29 : ((getHH ((putH mostH).set (415 / 64) (((putH mostH).getD (415 / 64) []).set (415 % 64) ((((putH mostH).getD (415 / 64) (List.replicate 64 (0 : UInt8))).getD (415 % 64) 0) + 1)))).s3.2.2.2.2).length = 32 := (getHH_ok (ok_set (putH_ok mostH_ok) ((List.length_set ..).trans (row64 (putH_ok mostH_ok) hlj124)))).s3.2.2.2
      refine s_storeSegs 0 30 (vss := [[.int .i64 ((getHH ((putH mostH).set (415 / 64) (((putH mostH).getD (415 / 64) []).set (415 % 64) ((((putH mostH).getD (415 / 64) (List.replicate 64 (0 : UInt8))).getD (415 % 64) 0) + 1)))).m)], [.int .i64 ((getHH ((putH mostH).set (415 / 64) (((putH mostH).getD (415 / 64) []).set (415 % 64) ((((putH mostH).getD (415 / 64) (List.replicate 64 (0 : UInt8))).getD (415 % 64) 0) + 1)))).r)], [.bool ((getHH ((putH mostH).set (415 / 64) (((putH mostH).getD (415 / 64) []).set (415 % 64) ((((putH mostH).getD (415 / 64) (List.replicate 64 (0 : UInt8))).getD (415 % 64) 0) + 1)))).v0.1)], [.int .u64 (((getHH ((putH mostH).set (415 / 64) (((putH mostH).getD (415 / 64) []).set (415 % 64) ((((putH mostH).getD (415 / 64) (List.replicate 64 (0 : UInt8))).getD (415 % 64) 0) + 1)))).v0.2.1 : Nat) : Int)], bv ((getHH ((putH mostH).set (415 / 64) (((putH mostH).getD (415 / 64) []).set (415 % 64) ((((putH mostH).getD (415 / 64) (List.replicate 64 (0 : UInt8))).getD (415 % 64) 0) + 1)))).v0.2.2.1), bv ((getHH ((putH mostH).set (415 / 64) (((putH mostH).getD (415 / 64) []).set (415 % 64) ((((putH mostH).getD (415 / 64) (List.replicate 64 (0 : UInt8))).getD (415 % 64) 0) + 1)))).v0.2.2.2), [.bool ((getHH ((putH mostH).set (415 / 64) (((putH mostH).getD (415 / 64) []).set (415 % 64) ((((putH mostH).getD (415 / 64) (List.replicate 64 (0 : UInt8))).getD (415 % 64) 0) + 1)))).v1.1)], [.int .u64 (((getHH ((putH mostH).set (415 / 64) (((putH mostH).getD (415 / 64) []).set (415 % 64) ((((putH mostH).getD (415 / 64) (List.replicate 64 (0 : UInt8))).getD (415 % 64) 0) + 1)))).v1.2.1 : Nat) : Int)], bv ((getHH ((putH mostH).set (415 / 64) (((putH mostH).getD (415 / 64) []).set (415 % 64) ((((putH mostH).getD (415 / 64) (List.replicate 64 (0 : UInt8))).getD (415 % 64) 0) + 1)))).v1.2.2.1), bv ((getHH ((putH mostH).set (415 / 64) (((putH mostH).getD (415 / 64) []).set (415 % 64) ((((putH mostH).getD (415 / 64) (List.replicate 64 (0 : UInt8))).getD (415 % 64) 0) + 1)))).v1.2.2.2), [.bool ((getHH ((putH mostH).set (415 / 64) (((putH mostH).getD (415 / 64) []).set (415 % 64) ((((putH mostH).getD (415 / 64) (List.replicate 64 (0 : UInt8))).getD (415 % 64) 0) + 1)))).s0.1)], [.int .i64 ((getHH ((putH mostH).set (415 / 64) (((putH mostH).getD (415 / 64) []).set (415 % 64) ((((putH mostH).getD (415 / 64) (List.replicate 64 (0 : UInt8))).getD (415 % 64) 0) + 1)))).s0.2.1)], bv ((getHH ((putH mostH).set (415 / 64) (((putH mostH).getD (415 / 64) []).set (415 % 64) ((((putH mostH).getD (415 / 64) (List.replicate 64 (0 : UInt8))).getD (415 % 64) 0) + 1)))).s0.2.2.1), bv ((getHH ((putH mostH).set (415 / 64) (((putH mostH).getD (415 / 64) []).set (415 % 64) ((((putH mostH).getD (415 / 64) (List.replicate 64 (0 : UInt8))).getD (415 % 64) 0) + 1)))).s0.2.2.2.1), bv ((getHH ((putH mostH).set (415 / 64) (((putH mostH).getD (415 / 64) []).set (415 % 64) ((((putH mostH).getD (415 / 64) (List.replicate 64 (0 : UInt8))).getD (415 % 64) 0) + 1)))).s0.2.2.2.2), [.bool ((getHH ((putH mostH).set (415 / 64) (((putH mostH).getD (415 / 64) []).set (415 % 64) ((((putH mostH).getD (415 / 64) (List.replicate 64 (0 : UInt8))).getD (415 % 64) 0) + 1)))).s1.1)], [.int .i64 ((getHH ((putH mostH).set (415 / 64) (((putH mostH).getD (415 / 64) []).set (415 % 64) ((((putH mostH).getD (415 / 64) (List.replicate 64 (0 : UInt8))).getD (415 % 64) 0) + 1)))).s1.2.1)], bv ((getHH ((putH mostH).set (415 / 64) (((putH mostH).getD (415 / 64) []).set (415 % 64) ((((putH mostH).getD (415 / 64) (List.replicate 64 (0 : UInt8))).getD (415 % 64) 0) + 1)))).s1.2.2.1), bv ((getHH ((putH mostH).set (415 / 64) (((putH mostH).getD (415 / 64) []).set (415 % 64) ((((putH mostH).getD (415 / 64) (List.replicate 64 (0 : UInt8))).getD (415 % 64) 0) + 1)))).s1.2.2.2.1), bv ((getHH ((putH mostH).set (415 / 64) (((putH mostH).getD (415 / 64) []).set (415 % 64) ((((putH mostH).getD (415 / 64) (List.replicate 64 (0 : UInt8))).getD (415 % 64) 0) + 1)))).s1.2.2.2.2), [.bool ((getHH ((putH mostH).set (415 / 64) (((putH mostH).getD (415 / 64) []).set (415 % 64) ((((putH mostH).getD (415 / 64) (List.replicate 64 (0 : UInt8))).getD (415 % 64) 0) + 1)))).s2.1)], [.int .i64 ((getHH ((putH mostH).set (415 / 64) (((putH mostH).getD (415 / 64) []).set (415 % 64) ((((putH mostH).getD (415 / 64) (List.replicate 64 (0 : UInt8))).getD (415 % 64) 0) + 1)))).s2.2.1)], bv ((getHH ((putH mostH).set (415 / 64) (((putH mostH).getD (415 / 64) []).set (415 % 64) ((((putH mostH).getD (415 / 64) (List.replicate 64 (0 : UInt8))).getD (415 % 64) 0) + 1)))).s2.2.2.1), bv ((getHH ((putH mostH).set (415 / 64) (((putH mostH).getD (415 / 64) []).set (415 % 64) ((((putH mostH).getD (415 / 64) (List.replicate 64 (0 : UInt8))).getD (415 % 64) 0) + 1)))).s2.2.2.2.1), bv ((getHH ((putH mostH).set (415 / 64) (((putH mostH).getD (415 / 64) []).set (415 % 64) ((((putH mostH).getD (415 / 64) (List.replicate 64 (0 : UInt8))).getD (415 % 64) 0) + 1)))).s2.2.2.2.2), [.bool ((getHH ((putH mostH).set (415 / 64) (((putH mostH).getD (415 / 64) []).set (415 % 64) ((((putH mostH).getD (415 / 64) (List.replicate 64 (0 : UInt8))).getD (415 % 64) 0) + 1)))).s3.1)], [.int .i64 ((getHH ((putH mostH).set (415 / 64) (((putH mostH).getD (415 / 64) []).set (415 % 64) ((((putH mostH).getD (415 / 64) (List.replicate 64 (0 : UInt8))).getD (415 % 64) 0) + 1)))).s3.2.1)], bv ((getHH ((putH mostH).set (415 / 64) (((putH mostH).getD (415 / 64) []).set (415 % 64) ((((putH mostH).getD (415 / 64) (List.replicate 64 (0 : UInt8))).getD (415 % 64) 0) + 1)))).s3.2.2.1), bv ((getHH ((putH mostH).set (415 / 64) (((putH mostH).getD (415 / 64) []).set (415 % 64) ((((putH mostH).getD (415 / 64) (List.replicate 64 (0 : UInt8))).getD (415 % 64) 0) + 1)))).s3.2.2.2.1), bv ((getHH ((putH mostH).set (415 / 64) (((putH mostH).getD (415 / 64) []).set (415 % 64) ((((putH mostH).getD (415 / 64) (List.replicate 64 (0 : UInt8))).getD (415 % 64) 0) + 1)))).s3.2.2.2.2)]) hE rfl rfl hM rfl sz39 (by simp only [List.take_succ_cons, List.take_zero, List.drop_zero, List.drop_succ_cons]; simp only [List.map_cons, List.map_nil, bv_length, List.length_cons, List.length_nil, List.length_replicate, hsl523_4, hsl523_5, hsl523_8, hsl523_9, hsl523_12, hsl523_13, hsl523_14, hsl523_17, hsl523_18, hsl523_19, hsl523_22, hsl523_23, hsl523_24, hsl523_27, hsl523_28, hsl523_29]) (by decide) rfl (one_fl ⟨one1 rfl, one1 rfl, one1 rfl, one1 rfl, bv_one _, bv_one _, one1 rfl, one1 rfl, bv_one _, bv_one _, one1 rfl, one1 rfl, bv_one _, bv_one _, bv_one _, one1 rfl, one1 rfl, bv_one _, bv_one _, bv_one _, one1 rfl, one1 rfl, bv_one _, bv_one _, bv_one _, one1 rfl, one1 rfl, bv_one _, bv_one _, bv_one _, trivial⟩) rfl (by intro X h; cases h) ?_; intro w45 hM'; clear hM; have hM := hM'; clear hM'
      try simp only [List.take_zero, List.take_succ_cons, List.drop_zero, List.drop_succ_cons, List.take_nil, List.drop_nil, List.nil_append, List.append_nil, List.cons_append] at hM
      refine s_assign hE rfl rfl ?_; clear hE a; intro a hE
      refine q_nil ?_
      replace hE : Env a 170 [(0, _), (1, _), (2, _), (3, _), (4, _), (5, _), (6, _), (7, _), (9, _), (11, _), (13, _), (15, _), (16, _), (18, _), (20, _), (21, _), (22, _), (26, _), (41, _), (114, _)] := hE.sel [0, 1, 2, 3, 4, 5, 6, 7, 9, 11, 13, 15, 16, 18, 20, 21, 22, 26, 41, 114] rfl
      refine hK28 _ _ ?_
      refine wp_seq_k (fun K29 hK29 => ?_)
      refine wp_plain [true, true, true, true, true, true, true, true, true, true, true, true, true, true, true, true, true, true, true, true, true, true, true, true, true, true, true, true, true, true, true, true, true, true, true, true, true, false, true, true] rfl rfl ?_
      refine s_move hE rfl rfl ?_; clear hE a; intro a hE
      refine s_bin hE rfl rfl bin_eql rfl ?_; clear hE a; intro a hE
      refine s_move hE rfl rfl ?_; clear hE a; intro a hE
      replace hE := hE.cast 133 rfl (show _ = Value.bool true from (congrArg Value.bool (by first | (with_reducible exact decide_eq_true rfl) | decide +kernel | (simp; done))))
      refine g_yes hE rfl rfl ?_
      refine s_move hE rfl rfl ?_; clear hE a; intro a hE
      refine g_yes hE rfl rfl ?_
      refine s_sliceTo (l := 12) hE rfl (hM.get 14 rfl) slt55 ⟨_, rfl⟩ (by first | omega | (simp; omega) | (simp [*]; omega) | decide +kernel) rfl ?_; clear hE a; intro a hE
      refine g_yes hE rfl rfl ?_
      obtain ⟨cs136, hs136⟩ := own_subR (hM.get 14 rfl) (l := 12) (by first | omega | assumption | (simp; done) | (simp; omega) | decide) (by first | rfl | simp)
      refine s_toStr hE rfl Try.underlying55 Try.underlying5 Try.underlying9 hs136 (by intro X h; cases h) rfl ?_; clear hE a; intro a hE
      refine g_yes hE rfl rfl ?_
      refine s_bin hE rfl rfl bins_str.1 rfl ?_; clear hE a; intro a hE
      refine s_pickt hE rfl rfl rfl ?_; clear hE a; intro a hE
      refine s_move hE rfl rfl ?_; clear hE a; intro a hE
      replace hE := hE.cast 139 rfl (show _ = Value.bool true from (congrArg Value.bool (by first | (with_reducible exact decide_eq_true rfl) | decide +kernel | (simp; done))))
      refine g_yes hE rfl rfl ?_
      refine s_move hE rfl rfl ?_; clear hE a; intro a hE
      refine g_yes hE rfl rfl ?_
      refine s_bin hE rfl rfl bin_eql rfl ?_; clear hE a; intro a hE
      refine s_pickt hE rfl rfl rfl ?_; clear hE a; intro a hE
      refine s_move hE rfl rfl ?_; clear hE a; intro a hE
      replace hE := hE.cast 143 rfl (show _ = Value.bool true from (congrArg Value.bool (by first | (with_reducible exact decide_eq_true rfl) | decide +kernel | (simp; done))))
      refine g_yes hE rfl rfl ?_
      refine s_move hE rfl rfl ?_; clear hE a; intro a hE
      refine g_yes hE rfl rfl ?_
      refine s_bin hE rfl rfl bin_eql rfl ?_; clear hE a; intro a hE
      refine s_pickt hE rfl rfl rfl ?_; clear hE a; intro a hE
      refine s_move hE rfl rfl ?_; clear hE a; intro a hE
      replace hE := hE.cast 147 rfl (show _ = Value.bool true from (congrArg Value.bool (by first | (with_reducible exact decide_eq_true rfl) | decide +kernel | (simp; done))))
      refine g_yes hE rfl rfl ?_
      refine s_move hE rfl rfl ?_; clear hE a; intro a hE
      refine g_yes hE rfl rfl ?_
      refine s_bin hE rfl rfl bin_eql rfl ?_; clear hE a; intro a hE
      refine s_pickt hE rfl rfl rfl ?_; clear hE a; intro a hE
      refine s_move hE rfl rfl ?_; clear hE a; intro a hE
      replace hE := hE.cast 151 rfl (show _ = Value.bool true from (congrArg Value.bool (by first | (with_reducible exact decide_eq_true rfl) | decide +kernel | (simp; done))))
      refine g_yes hE rfl rfl ?_
      refine s_move hE rfl rfl ?_; clear hE a; intro a hE
      refine g_yes hE rfl rfl ?_
      refine s_bin hE rfl rfl bin_eql rfl ?_; clear hE a; intro a hE
      refine s_pickt hE rfl rfl rfl ?_; clear hE a; intro a hE
      refine s_move hE rfl rfl ?_; clear hE a; intro a hE
      replace hE := hE.cast 155 rfl (show _ = Value.bool true from (congrArg Value.bool (by first | (with_reducible exact decide_eq_true rfl) | decide +kernel | (simp; done))))
      refine g_yes hE rfl rfl ?_
      refine s_move hE rfl rfl ?_; clear hE a; intro a hE
      refine g_yes hE rfl rfl ?_
      refine s_bin hE rfl rfl bin_eql rfl ?_; clear hE a; intro a hE
      refine s_pickt hE rfl rfl rfl ?_; clear hE a; intro a hE
      refine s_move hE rfl rfl ?_; clear hE a; intro a hE
      replace hE := hE.cast 159 rfl (show _ = Value.bool true from (congrArg Value.bool (by first | (with_reducible exact decide_eq_true rfl) | decide +kernel | (simp; done))))
      refine g_yes hE rfl rfl ?_
      refine s_move hE rfl rfl ?_; clear hE a; intro a hE
      refine g_yes hE rfl rfl ?_
      refine s_bin hE rfl rfl bin_eql rfl ?_; clear hE a; intro a hE
      refine s_pickt hE rfl rfl rfl ?_; clear hE a; intro a hE
      refine s_move hE rfl rfl ?_; clear hE a; intro a hE
      replace hE := hE.cast 163 rfl (show _ = Value.bool true from (congrArg Value.bool (by first | (with_reducible exact decide_eq_true rfl) | decide +kernel | (simp; done))))
      refine g_yes hE rfl rfl ?_
      refine s_move hE rfl rfl ?_; clear hE a; intro a hE
      refine g_yes hE rfl rfl ?_
      refine s_bin hE rfl rfl bin_eql rfl ?_; clear hE a; intro a hE
      refine s_pickt hE rfl rfl rfl ?_; clear hE a; intro a hE
      refine s_move hE rfl rfl ?_; clear hE a; intro a hE
      replace hE := hE.cast 167 rfl (show _ = Value.bool true from (congrArg Value.bool (by first | (with_reducible exact decide_eq_true rfl) | decide +kernel | (simp; done))))
      refine g_yes hE rfl rfl ?_
      refine s_call hE rfl Try.call13 (works24_c  _ ) rfl ?_
      rintro e w46 ⟨rfl, hN⟩
      refine ⟨_, rfl, trivial, ?_⟩; clear hE a; intro a hE
      replace hM : Mem _ _ w46 [_, _, _, _, _, _, _, _, _, _, _, _, _, _, _, _] := hM.call0 hN trivial; clear hN
      refine s_pickt hE rfl rfl rfl ?_; clear hE a; intro a hE
      refine s_assign hE rfl rfl ?_; clear hE a; intro a hE
      refine q_nil ?_
      replace hE : Env a 170 [(0, _), (1, _), (3, _), (4, _), (5, _), (6, _), (7, _), (16, _), (21, _), (22, _), (41, _), (114, _)] := hE.sel [0, 1, 3, 4, 5, 6, 7, 16, 21, 22, 41, 114] rfl
      refine hK29 _ _ ?_
      refine wp_ret ?_
      refine f_ret1 hE rfl rfl ?_
      exact ⟨(by first | rfl | (simp; done)), hM.pick [] rfl⟩
    trivial
  trivial
set_option maxRecDepth 100000 in
theorem headerKnown_lifted (os : Os) (started : os.Started) (H : Type) (enc : TypeId × Value → H) :
    ReturnsInHanded {} Try.checked os 6 .any (Rows.headerKnownSpec.pre6 enc Try.prog Try.f6 Rows.headerKnownRow.domain false) (Rows.headerKnownSpec.post enc Try.prog Try.f6 false true false false) := by
  refine law_lifted (C := Try.checked) (fn := Try.f6) (by kernel_rfl) started (by kernel_rfl) Try.func6 rfl (fun ds hl => ?_) rfl Try.underlying4 (by kernel_rfl) (of_decide_eq_true (by kernel_rfl)) (ChangeSpec.witness6 (enc := enc) (C := Try.checked) false ⟨#[], #[], []⟩ 8 (by kernel_rfl) (by kernel_rfl) (by kernel_rfl) (by kernel_rfl)) ?_
  · rw [Try.params6] at hl
    match ds, hl with
    | [], _ => rfl
  · intro W base args ds ps hval hA hw
    rw [Try.params6] at hA hval hw
    obtain ⟨hargs, rfl, rfl⟩ := trodAll_nil hA
    obtain rfl : args = #[] := by cases args; simp_all
    exact headerKnown_c W

/-- The statement. -/
theorem headerKnown_holds : Rows.HeaderKnownSaid :=
  OpenClaim.holds_of_wide 6 Try.f6 rfl rfl rfl rfl rfl rfl rfl ⟨rfl, rfl, rfl, rfl, rfl⟩ rfl rfl rfl rfl rfl (by kernel_rfl) Try.func6 (by kernel_rfl)
    (of_decide_eq_true (by kernel_rfl)) (by unfold Func.isWrapper; first | (rw [if_pos (by decide +kernel)]; kernel_rfl) | (rw [if_neg (by decide +kernel)]; exact ⟨rfl, rfl⟩))
    (fun os started H enc _ => headerKnown_lifted os started H enc)
#print axioms headerKnown_holds
end Go.Proofs.Ytamjaacddbecaaa
