/- CellKnown of casematelaw12 returns true. No condition. -/
import Derived.Test.YtafokhpokeipkaaLc
namespace Go.Proofs.Ytafokhpokeipkaa
open Go Go.Kx
open Go.ChangeShapes Go.WideShapes Go.ChangeAt Go.RowKit
theorem eqa24 : ∀ {a b : List UInt8}, a.length = 32 → b.length = 32 → Bin Try.prog .eql 24 (.agg (bv a).toArray) (.agg (bv b).toArray) (.bool (decide (a = b))) ∧ Bin Try.prog .neq 24 (.agg (bv a).toArray) (.agg (bv b).toArray) (.bool (!decide (a = b))) := fun ha hb => bins_arr8 Try.underlying24 (by kernel_rfl) Try.underlying5 (by kernel_rfl) (by kernel_rfl) ha hb
theorem cellKnown_c (w : World) : Calls Try.prog 5 #[] w fun e w' => e = .returned (.bool true) ∧ Mem w [] w' [] := by
  have hM := Mem.start0 w
  refine f_enter 160 Try.func5 rfl rfl rfl ?_
  intro a hE
  replace hE : Env a 160 [] := hE
  refine wp_seq_k (fun K1 hK1 => ?_)
  refine wp_plain [true] rfl rfl ?_
  refine s_assign hE rfl rfl ?_; clear hE a; intro a hE
  refine q_nil ?_
  refine hK1 _ _ ?_
  refine wp_seq_k (fun K2 hK2 => ?_)
  refine wp_plain [true, false, true, true, true, true, true] rfl rfl ?_
  refine s_build (r := .agg (cl cl0).toArray) _ hE rfl (fun w => by kernel_rfl) rfl ?_; clear hE a; intro a hE
  refine s_call hE rfl Try.call7 (cnew_ok cl0 _ ⟨rfl, by decide⟩ (by decide)) rfl ?_
  rintro e w1 ⟨pa, ba, rfl, hN⟩
  refine ⟨_, rfl, trivial, ?_⟩; clear hE a; intro a hE
  replace hM : Mem _ _ w1 [_, _] := hM.call0 hN ⟨rfl, rfl, trivial⟩; clear hN
  have ka := OkH.one (c0 := cl0) ⟨rfl, by decide⟩ (by decide)
  refine s_move hE rfl rfl ?_; clear hE a; intro a hE
  refine s_extract hE rfl rfl rfl ?_; clear hE a; intro a hE
  refine s_extract hE rfl rfl rfl ?_; clear hE a; intro a hE
  refine s_assign hE rfl rfl ?_; clear hE a; intro a hE
  refine s_assign hE rfl rfl ?_; clear hE a; intro a hE
  refine q_nil ?_
  replace hE : Env a 160 [(0, _), (1, _), (2, _)] := hE.sel [0, 1, 2] rfl
  refine hK2 _ _ ?_
  refine wp_seq_k (fun K3 hK3 => ?_)
  refine wp_plain [true, true, false, true, true, true, true, true] rfl rfl ?_
  refine s_move hE rfl rfl ?_; clear hE a; intro a hE
  refine s_build (r := .agg (bv [1, 0, 0, 0, 0, 0, 0, 0, 0, 0, 0, 0, 0, 0, 0, 0, 0, 0, 0, 0, 0, 0, 0, 0, 0, 0, 0, 0, 0, 0, 0, 0]).toArray) _ hE rfl (fun w => by kernel_rfl) rfl ?_; clear hE a; intro a hE
  have hap := apart_of_get hM.apart (i := 0) (j := 1) rfl rfl (by decide)
  refine s_call hE rfl Try.call9 (cadvO_c pa _ ([cl0]) [1, 0, 0, 0, 0, 0, 0, 0, 0, 0, 0, 0, 0, 0, 0, 0, 0, 0, 0, 0, 0, 0, 0, 0, 0, 0, 0, 0, 0, 0, 0, 0] _ (hM.get 0 rfl) (hM.get 1 rfl) (hap.1 _ (.head _)).1 ka.ok ka.pos (by first | omega | decide) rfl ka.top) rfl ?_; clear hap
  rintro e w2 ⟨va31, rfl, hN⟩
  refine ⟨_, rfl, trivial, ?_⟩; clear hE a; intro a hE
  replace hM : Mem _ _ w2 [_, _] := hM.call2 hN ⟨rfl, rfl, trivial⟩; clear hN
  have ka31 := ka.adv (lab := [1, 0, 0, 0, 0, 0, 0, 0, 0, 0, 0, 0, 0, 0, 0, 0, 0, 0, 0, 0, 0, 0, 0, 0, 0, 0, 0, 0, 0, 0, 0, 0]) rfl
  refine s_move hE rfl rfl ?_; clear hE a; intro a hE
  refine s_extract hE rfl rfl rfl ?_; clear hE a; intro a hE
  refine s_extract hE rfl rfl rfl ?_; clear hE a; intro a hE
  refine s_assign hE rfl rfl ?_; clear hE a; intro a hE
  refine s_assign hE rfl rfl ?_; clear hE a; intro a hE
  refine q_nil ?_
  replace hE : Env a 160 [(0, _), (1, _), (2, _), (3, _), (4, _)] := hE.sel [0, 1, 2, 3, 4] rfl
  refine hK3 _ _ ?_
  refine wp_seq_k (fun K4 hK4 => ?_)
  refine wp_plain [true, true, false, true, true, true, true, true] rfl rfl ?_
  refine s_move hE rfl rfl ?_; clear hE a; intro a hE
  refine s_build (r := .agg (bv [2, 0, 0, 0, 0, 0, 0, 0, 0, 0, 0, 0, 0, 0, 0, 0, 0, 0, 0, 0, 0, 0, 0, 0, 0, 0, 0, 0, 0, 0, 0, 0]).toArray) _ hE rfl (fun w => by kernel_rfl) rfl ?_; clear hE a; intro a hE
  have hap := apart_of_get hM.apart (i := 0) (j := 1) rfl rfl (by decide)
  refine s_call hE rfl Try.call9 (cadvO_c pa va31 (advL ([cl0]) [1, 0, 0, 0, 0, 0, 0, 0, 0, 0, 0, 0, 0, 0, 0, 0, 0, 0, 0, 0, 0, 0, 0, 0, 0, 0, 0, 0, 0, 0, 0, 0]) [2, 0, 0, 0, 0, 0, 0, 0, 0, 0, 0, 0, 0, 0, 0, 0, 0, 0, 0, 0, 0, 0, 0, 0, 0, 0, 0, 0, 0, 0, 0, 0] _ (hM.get 0 rfl) (hM.get 1 rfl) (hap.1 _ (.head _)).1 ka31.ok ka31.pos (by first | omega | decide) rfl ka31.top) rfl ?_; clear hap
  rintro e w3 ⟨va37, rfl, hN⟩
  refine ⟨_, rfl, trivial, ?_⟩; clear hE a; intro a hE
  replace hM : Mem _ _ w3 [_, _] := hM.call2 hN ⟨rfl, rfl, trivial⟩; clear hN
  have ka37 := ka31.adv (lab := [2, 0, 0, 0, 0, 0, 0, 0, 0, 0, 0, 0, 0, 0, 0, 0, 0, 0, 0, 0, 0, 0, 0, 0, 0, 0, 0, 0, 0, 0, 0, 0]) rfl
  refine s_move hE rfl rfl ?_; clear hE a; intro a hE
  refine s_extract hE rfl rfl rfl ?_; clear hE a; intro a hE
  refine s_extract hE rfl rfl rfl ?_; clear hE a; intro a hE
  refine s_assign hE rfl rfl ?_; clear hE a; intro a hE
  refine s_assign hE rfl rfl ?_; clear hE a; intro a hE
  refine q_nil ?_
  replace hE : Env a 160 [(0, _), (1, _), (2, _), (3, _), (4, _), (5, _), (6, _)] := hE.sel [0, 1, 2, 3, 4, 5, 6] rfl
  refine hK4 _ _ ?_
  refine wp_seq_k (fun K5 hK5 => ?_)
  refine wp_plain [true, false, true, true, true, false, false, true] rfl rfl ?_
  refine s_move hE rfl rfl ?_; clear hE a; intro a hE
  obtain ⟨crd42, hrd42⟩ := own_rd (hM.get 1 rfl)
  refine s_call hE rfl Try.call10 (cread_c pa va37 (advL (advL ([cl0]) [1, 0, 0, 0, 0, 0, 0, 0, 0, 0, 0, 0, 0, 0, 0, 0, 0, 0, 0, 0, 0, 0, 0, 0, 0, 0, 0, 0, 0, 0, 0, 0]) [2, 0, 0, 0, 0, 0, 0, 0, 0, 0, 0, 0, 0, 0, 0, 0, 0, 0, 0, 0, 0, 0, 0, 0, 0, 0, 0, 0, 0, 0, 0, 0]) _ _ (hM.get 0 rfl) hrd42 ka37.ok ka37.pos (by first | omega | decide)) rfl ?_
  rintro e w4 ⟨rfl, hN⟩
  refine ⟨_, rfl, trivial, ?_⟩; clear hE a; intro a hE
  replace hM : Mem _ _ w4 [_, _] := hM.call0 hN trivial; clear hN
  refine s_move hE rfl rfl ?_; clear hE a; intro a hE
  refine s_extract hE rfl rfl rfl ?_; clear hE a; intro a hE
  refine s_extract hE rfl rfl rfl ?_; clear hE a; intro a hE
  refine s_alloc [1, 32] hE hM zero26 rfl rfl ?_; clear hE a; intro a b7 w5 hE hM'
  clear hM; have hM := hM'; clear hM'
  refine s_storeSegs 0 2 (vss := [[.int .u64 ((lst (advL (advL ([cl0]) [1, 0, 0, 0, 0, 0, 0, 0, 0, 0, 0, 0, 0, 0, 0, 0, 0, 0, 0, 0, 0, 0, 0, 0, 0, 0, 0, 0, 0, 0, 0, 0]) [2, 0, 0, 0, 0, 0, 0, 0, 0, 0, 0, 0, 0, 0, 0, 0, 0, 0, 0, 0, 0, 0, 0, 0, 0, 0, 0, 0, 0, 0, 0, 0])).1 : Int)], bv (lst (advL (advL ([cl0]) [1, 0, 0, 0, 0, 0, 0, 0, 0, 0, 0, 0, 0, 0, 0, 0, 0, 0, 0, 0, 0, 0, 0, 0, 0, 0, 0, 0, 0, 0, 0, 0]) [2, 0, 0, 0, 0, 0, 0, 0, 0, 0, 0, 0, 0, 0, 0, 0, 0, 0, 0, 0, 0, 0, 0, 0, 0, 0, 0, 0, 0, 0, 0, 0])).2]) hE rfl rfl hM (show (Value.agg (cl (lst (advL (advL ([cl0]) [1, 0, 0, 0, 0, 0, 0, 0, 0, 0, 0, 0, 0, 0, 0, 0, 0, 0, 0, 0, 0, 0, 0, 0, 0, 0, 0, 0, 0, 0, 0, 0]) [2, 0, 0, 0, 0, 0, 0, 0, 0, 0, 0, 0, 0, 0, 0, 0, 0, 0, 0, 0, 0, 0, 0, 0, 0, 0, 0, 0, 0, 0, 0, 0]))).toArray).cells = _ by simp [Value.cells, cl]) sz26 (by simp [ka37.last.1]) (by decide) rfl (one_fl ⟨one1 rfl, bv_one _, trivial⟩) rfl (by intro X h; cases h) ?_; intro w6 hM'; clear hM; have hM := hM'; clear hM'
  simp only [List.take_zero, List.take_succ_cons, List.drop_zero, List.drop_succ_cons, List.take_nil, List.drop_nil, List.nil_append, List.append_nil, List.cons_append] at hM
  refine s_assign hE rfl rfl ?_; clear hE a; intro a hE
  refine q_nil ?_
  replace hE : Env a 160 [(0, _), (1, _), (2, _), (3, _), (4, _), (5, _), (6, _), (7, _), (8, _)] := hE.sel [0, 1, 2, 3, 4, 5, 6, 7, 8] rfl
  refine hK5 _ _ ?_
  refine wp_seq_k (fun K6 hK6 => ?_)
  refine wp_plain [true, true, false, true, true, true, true, true] rfl rfl ?_
  refine s_build (r := .agg (bv [3, 0, 0, 0, 0, 0, 0, 0, 0, 0, 0, 0, 0, 0, 0, 0, 0, 0, 0, 0, 0, 0, 0, 0, 0, 0, 0, 0, 0, 0, 0, 0]).toArray) _ hE rfl (fun w => by kernel_rfl) rfl ?_; clear hE a; intro a hE
  refine s_buildS [[.int .u64 4611686018427387904], bv [3, 0, 0, 0, 0, 0, 0, 0, 0, 0, 0, 0, 0, 0, 0, 0, 0, 0, 0, 0, 0, 0, 0, 0, 0, 0, 0, 0, 0, 0, 0, 0]] hE rfl zero26 rfl fpl26 ⟨rfl, rfl, rfl, rfl, trivial⟩ rfl ?_; clear hE a; intro a hE
  refine s_call hE rfl Try.call7 (cnew_ok (4611686018427387904, [3, 0, 0, 0, 0, 0, 0, 0, 0, 0, 0, 0, 0, 0, 0, 0, 0, 0, 0, 0, 0, 0, 0, 0, 0, 0, 0, 0, 0, 0, 0, 0]) _ ⟨rfl, by decide⟩ (by decide)) rfl ?_
  rintro e w7 ⟨pb, bb, rfl, hN⟩
  refine ⟨_, rfl, trivial, ?_⟩; clear hE a; intro a hE
  replace hM : Mem _ _ w7 [_, _, _, _, _] := hM.call0 hN ⟨rfl, rfl, trivial⟩; clear hN
  have kb := OkH.one (c0 := (4611686018427387904, [3, 0, 0, 0, 0, 0, 0, 0, 0, 0, 0, 0, 0, 0, 0, 0, 0, 0, 0, 0, 0, 0, 0, 0, 0, 0, 0, 0, 0, 0, 0, 0])) ⟨rfl, by decide⟩ (by decide)
  refine s_move hE rfl rfl ?_; clear hE a; intro a hE
  refine s_extract hE rfl rfl rfl ?_; clear hE a; intro a hE
  refine s_extract hE rfl rfl rfl ?_; clear hE a; intro a hE
  refine s_assign hE rfl rfl ?_; clear hE a; intro a hE
  refine s_assign hE rfl rfl ?_; clear hE a; intro a hE
  refine q_nil ?_
  replace hE : Env a 160 [(0, _), (1, _), (2, _), (3, _), (4, _), (5, _), (6, _), (7, _), (8, _), (9, _), (10, _)] := hE.sel [0, 1, 2, 3, 4, 5, 6, 7, 8, 9, 10] rfl
  refine hK6 _ _ ?_
  refine wp_seq_k (fun K7 hK7 => ?_)
  refine wp_plain [true, true, false, true, true, true, true, true] rfl rfl ?_
  refine s_move hE rfl rfl ?_; clear hE a; intro a hE
  refine s_build (r := .agg (bv [4, 0, 0, 0, 0, 0, 0, 0, 0, 0, 0, 0, 0, 0, 0, 0, 0, 0, 0, 0, 0, 0, 0, 0, 0, 0, 0, 0, 0, 0, 0, 0]).toArray) _ hE rfl (fun w => by kernel_rfl) rfl ?_; clear hE a; intro a hE
  have hap := apart_of_get hM.apart (i := 0) (j := 1) rfl rfl (by decide)
  refine s_call hE rfl Try.call9 (cadvO_c pb _ ([(4611686018427387904, [3, 0, 0, 0, 0, 0, 0, 0, 0, 0, 0, 0, 0, 0, 0, 0, 0, 0, 0, 0, 0, 0, 0, 0, 0, 0, 0, 0, 0, 0, 0, 0])]) [4, 0, 0, 0, 0, 0, 0, 0, 0, 0, 0, 0, 0, 0, 0, 0, 0, 0, 0, 0, 0, 0, 0, 0, 0, 0, 0, 0, 0, 0, 0, 0] _ (hM.get 0 rfl) (hM.get 1 rfl) (hap.1 _ (.head _)).1 kb.ok kb.pos (by first | omega | decide) rfl kb.top) rfl ?_; clear hap
  rintro e w8 ⟨vb54, rfl, hN⟩
  refine ⟨_, rfl, trivial, ?_⟩; clear hE a; intro a hE
  replace hM : Mem _ _ w8 [_, _, _, _, _] := hM.call2 hN ⟨rfl, rfl, trivial⟩; clear hN
  have kb54 := kb.adv (lab := [4, 0, 0, 0, 0, 0, 0, 0, 0, 0, 0, 0, 0, 0, 0, 0, 0, 0, 0, 0, 0, 0, 0, 0, 0, 0, 0, 0, 0, 0, 0, 0]) rfl
  refine s_move hE rfl rfl ?_; clear hE a; intro a hE
  refine s_extract hE rfl rfl rfl ?_; clear hE a; intro a hE
  refine s_extract hE rfl rfl rfl ?_; clear hE a; intro a hE
  refine s_assign hE rfl rfl ?_; clear hE a; intro a hE
  refine s_assign hE rfl rfl ?_; clear hE a; intro a hE
  refine q_nil ?_
  replace hE : Env a 160 [(0, _), (1, _), (2, _), (3, _), (4, _), (5, _), (6, _), (7, _), (8, _), (9, _), (10, _), (12, _)] := hE.sel [0, 1, 2, 3, 4, 5, 6, 7, 8, 9, 10, 12] rfl
  refine hK7 _ _ ?_
  refine wp_seq_k (fun K8 hK8 => ?_)
  refine wp_plain [true, false, true, true, true, false, false, true] rfl rfl ?_
  refine s_move hE rfl rfl ?_; clear hE a; intro a hE
  obtain ⟨crd59, hrd59⟩ := own_rd (hM.get 1 rfl)
  refine s_call hE rfl Try.call10 (cread_c pb vb54 (advL ([(4611686018427387904, [3, 0, 0, 0, 0, 0, 0, 0, 0, 0, 0, 0, 0, 0, 0, 0, 0, 0, 0, 0, 0, 0, 0, 0, 0, 0, 0, 0, 0, 0, 0, 0])]) [4, 0, 0, 0, 0, 0, 0, 0, 0, 0, 0, 0, 0, 0, 0, 0, 0, 0, 0, 0, 0, 0, 0, 0, 0, 0, 0, 0, 0, 0, 0, 0]) _ _ (hM.get 0 rfl) hrd59 kb54.ok kb54.pos (by first | omega | decide)) rfl ?_
  rintro e w9 ⟨rfl, hN⟩
  refine ⟨_, rfl, trivial, ?_⟩; clear hE a; intro a hE
  replace hM : Mem _ _ w9 [_, _, _, _, _] := hM.call0 hN trivial; clear hN
  refine s_move hE rfl rfl ?_; clear hE a; intro a hE
  refine s_extract hE rfl rfl rfl ?_; clear hE a; intro a hE
  refine s_extract hE rfl rfl rfl ?_; clear hE a; intro a hE
  refine s_alloc [1, 32] hE hM zero26 rfl rfl ?_; clear hE a; intro a b13 w10 hE hM'
  clear hM; have hM := hM'; clear hM'
  refine s_storeSegs 0 2 (vss := [[.int .u64 ((lst (advL ([(4611686018427387904, [3, 0, 0, 0, 0, 0, 0, 0, 0, 0, 0, 0, 0, 0, 0, 0, 0, 0, 0, 0, 0, 0, 0, 0, 0, 0, 0, 0, 0, 0, 0, 0])]) [4, 0, 0, 0, 0, 0, 0, 0, 0, 0, 0, 0, 0, 0, 0, 0, 0, 0, 0, 0, 0, 0, 0, 0, 0, 0, 0, 0, 0, 0, 0, 0])).1 : Int)], bv (lst (advL ([(4611686018427387904, [3, 0, 0, 0, 0, 0, 0, 0, 0, 0, 0, 0, 0, 0, 0, 0, 0, 0, 0, 0, 0, 0, 0, 0, 0, 0, 0, 0, 0, 0, 0, 0])]) [4, 0, 0, 0, 0, 0, 0, 0, 0, 0, 0, 0, 0, 0, 0, 0, 0, 0, 0, 0, 0, 0, 0, 0, 0, 0, 0, 0, 0, 0, 0, 0])).2]) hE rfl rfl hM (show (Value.agg (cl (lst (advL ([(4611686018427387904, [3, 0, 0, 0, 0, 0, 0, 0, 0, 0, 0, 0, 0, 0, 0, 0, 0, 0, 0, 0, 0, 0, 0, 0, 0, 0, 0, 0, 0, 0, 0, 0])]) [4, 0, 0, 0, 0, 0, 0, 0, 0, 0, 0, 0, 0, 0, 0, 0, 0, 0, 0, 0, 0, 0, 0, 0, 0, 0, 0, 0, 0, 0, 0, 0]))).toArray).cells = _ by simp [Value.cells, cl]) sz26 (by simp [kb54.last.1]) (by decide) rfl (one_fl ⟨one1 rfl, bv_one _, trivial⟩) rfl (by intro X h; cases h) ?_; intro w11 hM'; clear hM; have hM := hM'; clear hM'
  simp only [List.take_zero, List.take_succ_cons, List.drop_zero, List.drop_succ_cons, List.take_nil, List.drop_nil, List.nil_append, List.append_nil, List.cons_append] at hM
  refine s_assign hE rfl rfl ?_; clear hE a; intro a hE
  refine q_nil ?_
  replace hE : Env a 160 [(0, _), (1, _), (2, _), (3, _), (4, _), (5, _), (6, _), (7, _), (8, _), (9, _), (10, _), (12, _), (13, _), (14, _)] := hE.sel [0, 1, 2, 3, 4, 5, 6, 7, 8, 9, 10, 12, 13, 14] rfl
  refine hK8 _ _ ?_
  refine wp_seq_k (fun K9 hK9 => ?_)
  refine wp_plain [true, false, true, true, true, true, true] rfl rfl ?_
  refine s_build (r := .agg (cl (4611686018427387905, List.replicate 32 0)).toArray) _ hE rfl (fun w => by kernel_rfl) rfl ?_; clear hE a; intro a hE
  refine s_call hE rfl Try.call7 (cnew_bad (4611686018427387905, List.replicate 32 0) _ ⟨rfl, by decide⟩ (by decide)) rfl ?_
  rintro e w12 ⟨rfl, hN⟩
  refine ⟨_, rfl, trivial, ?_⟩; clear hE a; intro a hE
  replace hM : Mem _ _ w12 [_, _, _, _, _, _] := hM.call0 hN trivial; clear hN
  refine s_move hE rfl rfl ?_; clear hE a; intro a hE
  refine s_extract hE rfl rfl rfl ?_; clear hE a; intro a hE
  refine s_extract hE rfl rfl rfl ?_; clear hE a; intro a hE
  refine s_assign hE rfl rfl ?_; clear hE a; intro a hE
  refine s_assign hE rfl rfl ?_; clear hE a; intro a hE
  refine q_nil ?_
  replace hE : Env a 160 [(0, _), (1, _), (2, _), (3, _), (4, _), (5, _), (6, _), (7, _), (8, _), (9, _), (10, _), (12, _), (13, _), (14, _), (16, _)] := hE.sel [0, 1, 2, 3, 4, 5, 6, 7, 8, 9, 10, 12, 13, 14, 16] rfl
  refine hK9 _ _ ?_
  refine wp_seq_k (fun K10 hK10 => ?_)
  refine wp_plain [true] rfl rfl ?_
  refine s_assign hE rfl rfl ?_; clear hE a; intro a hE
  refine q_nil ?_
  refine hK10 _ _ ?_
  refine wp_seq_k (fun K11 hK11 => ?_)
  refine wp_plain [true, false, true] rfl rfl ?_
  refine s_build (r := .agg ([.slice none 0 0]).toArray) _ hE rfl (fun w => by kernel_rfl) rfl ?_; clear hE a; intro a hE
  refine s_box (ss := [[.slice none 0 0]]) [1] hE hM rfl rfl rfl rfl ?_; clear hE a; intro a b68 w13 hE hM'
  clear hM; have hM := hM'; clear hM'
  refine s_assign hE rfl rfl ?_; clear hE a; intro a hE
  refine q_nil ?_
  replace hE : Env a 160 [(0, _), (1, _), (2, _), (3, _), (4, _), (5, _), (6, _), (7, _), (8, _), (9, _), (10, _), (12, _), (13, _), (14, _), (16, _), (17, _), (18, _)] := hE.sel [0, 1, 2, 3, 4, 5, 6, 7, 8, 9, 10, 12, 13, 14, 16, 17, 18] rfl
  refine hK11 _ _ ?_
  refine wp_seq_k (fun K12 hK12 => ?_)
  refine wp_plain [true, false, true, true, true, false, false, true] rfl rfl ?_
  refine s_move hE rfl rfl ?_; clear hE a; intro a hE
  refine s_call hE rfl Try.call10 (read_nil _) rfl ?_
  rintro e w14 ⟨rfl, hN⟩
  refine ⟨_, rfl, trivial, ?_⟩; clear hE a; intro a hE
  replace hM : Mem _ _ w14 [_, _, _, _, _, _, _] := hM.call0 hN trivial; clear hN
  refine s_move hE rfl rfl ?_; clear hE a; intro a hE
  refine s_extract hE rfl rfl rfl ?_; clear hE a; intro a hE
  refine s_extract hE rfl rfl rfl ?_; clear hE a; intro a hE
  refine s_alloc [1, 32] hE hM zero26 rfl rfl ?_; clear hE a; intro a b19 w15 hE hM'
  clear hM; have hM := hM'; clear hM'
  refine s_storeSegs 0 2 (vss := [[.int .u64 0], bv (List.replicate 32 0)]) hE rfl rfl hM rfl sz26 (by simp) (by decide) rfl (one_fl ⟨one1 rfl, bv_one _, trivial⟩) rfl (by intro X h; cases h) ?_; intro w16 hM'; clear hM; have hM := hM'; clear hM'
  simp only [List.take_zero, List.take_succ_cons, List.drop_zero, List.drop_succ_cons, List.take_nil, List.drop_nil, List.nil_append, List.append_nil, List.cons_append] at hM
  refine s_assign hE rfl rfl ?_; clear hE a; intro a hE
  refine q_nil ?_
  replace hE : Env a 160 [(0, _), (1, _), (2, _), (3, _), (4, _), (5, _), (6, _), (7, _), (8, _), (9, _), (10, _), (12, _), (13, _), (14, _), (16, _), (17, _), (18, _), (20, _)] := hE.sel [0, 1, 2, 3, 4, 5, 6, 7, 8, 9, 10, 12, 13, 14, 16, 17, 18, 20] rfl
  refine hK12 _ _ ?_
  refine wp_seq_k (fun K13 hK13 => ?_)
  refine wp_plain [true, true, false, true, true, true, true, true] rfl rfl ?_
  refine s_move hE rfl rfl ?_; clear hE a; intro a hE
  refine s_build (r := .agg (bv (List.replicate 32 0)).toArray) _ hE rfl (fun w => by kernel_rfl) rfl ?_; clear hE a; intro a hE
  refine s_call hE rfl Try.call9 (adv_emp _ b68 (List.replicate 32 0) (by simp) (hM.get 1 rfl)) rfl ?_
  rintro e w17 ⟨rfl, hN⟩
  refine ⟨_, rfl, trivial, ?_⟩; clear hE a; intro a hE
  replace hM : Mem _ _ w17 [_, _, _, _, _, _, _, _] := hM.call0 hN trivial; clear hN
  refine s_move hE rfl rfl ?_; clear hE a; intro a hE
  refine s_extract hE rfl rfl rfl ?_; clear hE a; intro a hE
  refine s_extract hE rfl rfl rfl ?_; clear hE a; intro a hE
  refine s_assign hE rfl rfl ?_; clear hE a; intro a hE
  refine s_assign hE rfl rfl ?_; clear hE a; intro a hE
  refine q_nil ?_
  replace hE : Env a 160 [(0, _), (1, _), (2, _), (3, _), (4, _), (5, _), (6, _), (7, _), (8, _), (9, _), (10, _), (12, _), (13, _), (14, _), (16, _), (17, _), (18, _), (20, _), (22, _)] := hE.sel [0, 1, 2, 3, 4, 5, 6, 7, 8, 9, 10, 12, 13, 14, 16, 17, 18, 20, 22] rfl
  refine hK13 _ _ ?_
  refine wp_seq_k (fun K14 hK14 => ?_)
  refine wp_seq_k (fun K15 hK15 => ?_)
  refine wp_plain [true, true, true, true, true, true, true, true, true, true, true, true, true, true, true, true, true, true, true, true, true, true, true, true, true, true, true, true, true, true, true, true, true] rfl rfl ?_
  refine s_move hE rfl rfl ?_; clear hE a; intro a hE
  refine s_bin hE rfl rfl bin_neq rfl ?_; clear hE a; intro a hE
  refine s_move hE rfl rfl ?_; clear hE a; intro a hE
  replace hE := hE.cast 82 rfl (show _ = Value.bool false from (congrArg Value.bool (by first | rfl | decide)))
  refine g_yes hE rfl rfl ?_
  refine s_move hE rfl rfl ?_; clear hE a; intro a hE
  refine g_yes hE rfl rfl ?_
  refine s_bin hE rfl rfl bin_neq rfl ?_; clear hE a; intro a hE
  refine s_pickf hE rfl rfl rfl ?_; clear hE a; intro a hE
  refine s_move hE rfl rfl ?_; clear hE a; intro a hE
  replace hE := hE.cast 86 rfl (show _ = Value.bool false from (congrArg Value.bool (by first | rfl | decide)))
  refine g_yes hE rfl rfl ?_
  refine s_move hE rfl rfl ?_; clear hE a; intro a hE
  refine g_yes hE rfl rfl ?_
  refine s_bin hE rfl rfl bin_neq rfl ?_; clear hE a; intro a hE
  refine s_pickf hE rfl rfl rfl ?_; clear hE a; intro a hE
  refine s_move hE rfl rfl ?_; clear hE a; intro a hE
  replace hE := hE.cast 90 rfl (show _ = Value.bool false from (congrArg Value.bool (by first | rfl | decide)))
  refine g_yes hE rfl rfl ?_
  refine s_move hE rfl rfl ?_; clear hE a; intro a hE
  refine g_yes hE rfl rfl ?_
  refine s_bin hE rfl rfl bin_neq rfl ?_; clear hE a; intro a hE
  refine s_pickf hE rfl rfl rfl ?_; clear hE a; intro a hE
  refine s_move hE rfl rfl ?_; clear hE a; intro a hE
  replace hE := hE.cast 94 rfl (show _ = Value.bool false from (congrArg Value.bool (by first | rfl | decide)))
  refine g_yes hE rfl rfl ?_
  refine s_move hE rfl rfl ?_; clear hE a; intro a hE
  refine g_yes hE rfl rfl ?_
  refine s_bin hE rfl rfl bin_neq rfl ?_; clear hE a; intro a hE
  refine s_pickf hE rfl rfl rfl ?_; clear hE a; intro a hE
  refine s_move hE rfl rfl ?_; clear hE a; intro a hE
  replace hE := hE.cast 98 rfl (show _ = Value.bool false from (congrArg Value.bool (by first | rfl | decide)))
  refine g_yes hE rfl rfl ?_
  refine s_move hE rfl rfl ?_; clear hE a; intro a hE
  refine g_yes hE rfl rfl ?_
  refine s_bin hE rfl rfl bin_neq rfl ?_; clear hE a; intro a hE
  refine s_pickf hE rfl rfl rfl ?_; clear hE a; intro a hE
  refine s_move hE rfl rfl ?_; clear hE a; intro a hE
  replace hE := hE.cast 102 rfl (show _ = Value.bool false from (congrArg Value.bool (by first | rfl | decide)))
  refine g_yes hE rfl rfl ?_
  refine s_fieldAddr hE rfl fo26_0 rfl ?_; clear hE a; intro a hE
  refine g_yes hE rfl rfl ?_
  refine s_load1 hE rfl (hM.get 5 rfl) rfl one22 (by intro X h; cases h) rfl ?_; clear hE a; intro a hE
  refine g_yes hE rfl rfl ?_
  refine s_bin hE rfl rfl bin_neq rfl ?_; clear hE a; intro a hE
  refine s_pickf hE rfl rfl rfl ?_; clear hE a; intro a hE
  refine s_move hE rfl rfl ?_; clear hE a; intro a hE
  replace hE := hE.cast 107 rfl (show _ = Value.bool false from (congrArg Value.bool (by first | rfl | decide)))
  refine g_yes hE rfl rfl ?_
  refine s_fieldAddr hE rfl fo26_1 rfl ?_; clear hE a; intro a hE
  refine g_yes hE rfl rfl ?_
  refine s_loadN hE rfl (hM.get 5 rfl) row24 rfl (by intro X h; cases h) rfl ?_; clear hE a; intro a hE
  refine g_yes hE rfl rfl ?_
  refine s_build (r := .agg (bv [2, 0, 0, 0, 0, 0, 0, 0, 0, 0, 0, 0, 0, 0, 0, 0, 0, 0, 0, 0, 0, 0, 0, 0, 0, 0, 0, 0, 0, 0, 0, 0]).toArray) _ hE rfl (fun w => by kernel_rfl) rfl ?_; clear hE a; intro a hE
  refine g_yes hE rfl rfl ?_
  refine s_bin hE rfl rfl (eqa24 rfl rfl).2 rfl ?_; clear hE a; intro a hE
  refine s_pickf hE rfl rfl rfl ?_; clear hE a; intro a hE
  refine q_nil ?_
  replace hE : Env a 160 [(0, _), (1, _), (7, _), (9, _), (10, _), (12, _), (13, _), (14, _), (16, _), (17, _), (18, _), (20, _), (22, _), (112, _)] := hE.sel [0, 1, 7, 9, 10, 12, 13, 14, 16, 17, 18, 20, 22, 112] rfl
  refine hK15 _ _ ?_
  replace hE := hE.cast 112 rfl (show _ = Value.bool false from (congrArg Value.bool (by first | rfl | decide)))
  refine wp_cond_false (hE.eval rfl) ?_
  refine wp_skip ?_
  refine hK14 _ _ ?_
  refine wp_seq_k (fun K16 hK16 => ?_)
  refine wp_plain [true, true, true, true, true, true, true, true, true, true, true, true, true, true, true, true, true, true, true, true, true, true, true, true, true, true, true, true, true, true, true, true, true, true, true, false, true, true, true, true, true, false, true, true, true, false, true, true] rfl rfl ?_
  refine s_move hE rfl rfl ?_; clear hE a; intro a hE
  refine s_bin hE rfl rfl bin_eql rfl ?_; clear hE a; intro a hE
  refine s_move hE rfl rfl ?_; clear hE a; intro a hE
  replace hE := hE.cast 115 rfl (show _ = Value.bool true from (congrArg Value.bool (by first | rfl | decide)))
  refine g_yes hE rfl rfl ?_
  refine s_move hE rfl rfl ?_; clear hE a; intro a hE
  refine g_yes hE rfl rfl ?_
  refine s_bin hE rfl rfl bin_eql rfl ?_; clear hE a; intro a hE
  refine s_pickt hE rfl rfl rfl ?_; clear hE a; intro a hE
  refine s_move hE rfl rfl ?_; clear hE a; intro a hE
  replace hE := hE.cast 119 rfl (show _ = Value.bool true from (congrArg Value.bool (by first | rfl | decide)))
  refine g_yes hE rfl rfl ?_
  refine s_move hE rfl rfl ?_; clear hE a; intro a hE
  refine g_yes hE rfl rfl ?_
  refine s_bin hE rfl rfl bin_eql rfl ?_; clear hE a; intro a hE
  refine s_pickt hE rfl rfl rfl ?_; clear hE a; intro a hE
  refine s_move hE rfl rfl ?_; clear hE a; intro a hE
  replace hE := hE.cast 123 rfl (show _ = Value.bool true from (congrArg Value.bool (by first | rfl | decide)))
  refine g_yes hE rfl rfl ?_
  refine s_fieldAddr hE rfl fo26_0 rfl ?_; clear hE a; intro a hE
  refine g_yes hE rfl rfl ?_
  refine s_load1 hE rfl (hM.get 2 rfl) rfl one22 (by intro X h; cases h) rfl ?_; clear hE a; intro a hE
  refine g_yes hE rfl rfl ?_
  refine s_bin hE rfl rfl bin_eql rfl ?_; clear hE a; intro a hE
  refine s_pickt hE rfl rfl rfl ?_; clear hE a; intro a hE
  refine s_move hE rfl rfl ?_; clear hE a; intro a hE
  replace hE := hE.cast 128 rfl (show _ = Value.bool true from (congrArg Value.bool (by first | rfl | decide)))
  refine g_yes hE rfl rfl ?_
  refine s_fieldAddr hE rfl fo26_1 rfl ?_; clear hE a; intro a hE
  refine g_yes hE rfl rfl ?_
  refine s_loadN hE rfl (hM.get 2 rfl) row24 rfl (by intro X h; cases h) rfl ?_; clear hE a; intro a hE
  refine g_yes hE rfl rfl ?_
  refine s_build (r := .agg (bv [3, 0, 0, 0, 0, 0, 0, 0, 0, 0, 0, 0, 0, 0, 0, 0, 0, 0, 0, 0, 0, 0, 0, 0, 0, 0, 0, 0, 0, 0, 0, 0]).toArray) _ hE rfl (fun w => by kernel_rfl) rfl ?_; clear hE a; intro a hE
  refine g_yes hE rfl rfl ?_
  refine s_bin hE rfl rfl (eqa24 rfl rfl).1 rfl ?_; clear hE a; intro a hE
  refine s_pickt hE rfl rfl rfl ?_; clear hE a; intro a hE
  refine s_move hE rfl rfl ?_; clear hE a; intro a hE
  replace hE := hE.cast 134 rfl (show _ = Value.bool true from (congrArg Value.bool (by first | rfl | decide)))
  refine g_yes hE rfl rfl ?_
  refine s_move hE rfl rfl ?_; clear hE a; intro a hE
  refine g_yes hE rfl rfl ?_
  refine s_bin hE rfl rfl bin_eql rfl ?_; clear hE a; intro a hE
  refine s_pickt hE rfl rfl rfl ?_; clear hE a; intro a hE
  refine s_move hE rfl rfl ?_; clear hE a; intro a hE
  replace hE := hE.cast 138 rfl (show _ = Value.bool true from (congrArg Value.bool (by first | rfl | decide)))
  refine g_yes hE rfl rfl ?_
  refine s_move hE rfl rfl ?_; clear hE a; intro a hE
  refine g_yes hE rfl rfl ?_
  refine s_bin hE rfl rfl bin_eql rfl ?_; clear hE a; intro a hE
  refine s_pickt hE rfl rfl rfl ?_; clear hE a; intro a hE
  refine s_move hE rfl rfl ?_; clear hE a; intro a hE
  replace hE := hE.cast 142 rfl (show _ = Value.bool true from (congrArg Value.bool (by first | rfl | decide)))
  refine g_yes hE rfl rfl ?_
  refine s_move hE rfl rfl ?_; clear hE a; intro a hE
  refine g_yes hE rfl rfl ?_
  refine s_bin hE rfl rfl bin_eql rfl ?_; clear hE a; intro a hE
  refine s_pickt hE rfl rfl rfl ?_; clear hE a; intro a hE
  refine s_move hE rfl rfl ?_; clear hE a; intro a hE
  replace hE := hE.cast 146 rfl (show _ = Value.bool true from (congrArg Value.bool (by first | rfl | decide)))
  refine g_yes hE rfl rfl ?_
  refine s_move hE rfl rfl ?_; clear hE a; intro a hE
  refine g_yes hE rfl rfl ?_
  refine s_call hE rfl Try.call11 (hist_nil _) rfl ?_
  rintro e w18 ⟨rfl, hN⟩
  refine ⟨_, rfl, trivial, ?_⟩; clear hE a; intro a hE
  replace hM : Mem _ _ w18 [_, _, _, _, _, _, _, _] := hM.call0 hN trivial; clear hN
  refine g_yes hE rfl rfl ?_
  refine s_len hE rfl Try.underlying37 ⟨none, 0, rfl⟩ rfl ?_; clear hE a; intro a hE
  refine g_yes hE rfl rfl ?_
  refine s_bin hE rfl rfl bin_eql rfl ?_; clear hE a; intro a hE
  refine s_pickt hE rfl rfl rfl ?_; clear hE a; intro a hE
  refine s_move hE rfl rfl ?_; clear hE a; intro a hE
  replace hE := hE.cast 152 rfl (show _ = Value.bool true from (congrArg Value.bool (by first | rfl | decide)))
  refine g_yes hE rfl rfl ?_
  refine s_move hE rfl rfl ?_; clear hE a; intro a hE
  refine g_yes hE rfl rfl ?_
  refine s_call hE rfl Try.call13 (copy_emp _ b68 (hM.get 1 rfl)) rfl ?_
  rintro e w19 ⟨rfl, hN⟩
  refine ⟨_, rfl, trivial, ?_⟩; clear hE a; intro a hE
  replace hM : Mem _ _ w19 [_, _, _, _, _, _, _, _] := hM.call0 hN trivial; clear hN
  refine g_yes hE rfl rfl ?_
  refine s_bin hE rfl rfl (bins_nil_nil Try.underlying28).1 rfl ?_; clear hE a; intro a hE
  refine s_pickt hE rfl rfl rfl ?_; clear hE a; intro a hE
  refine s_move hE rfl rfl ?_; clear hE a; intro a hE
  refine g_yes hE rfl rfl ?_
  refine s_call hE rfl Try.call8 (works12_c _) rfl ?_
  rintro e w20 ⟨rfl, hN⟩
  refine ⟨_, rfl, trivial, ?_⟩; clear hE a; intro a hE
  replace hM : Mem _ _ w20 [_, _, _, _, _, _, _, _] := hM.call0 hN trivial; clear hN
  refine s_pickt hE rfl rfl rfl ?_; clear hE a; intro a hE
  refine s_assign hE rfl rfl ?_; clear hE a; intro a hE
  refine q_nil ?_
  replace hE : Env a 160 [(0, _), (1, _), (7, _), (9, _), (13, _), (17, _), (18, _), (112, _)] := hE.sel [0, 1, 7, 9, 13, 17, 18, 112] rfl
  refine hK16 _ _ ?_
  refine wp_ret ?_
  refine f_ret1 hE rfl rfl ?_
  exact ⟨by first | rfl | decide, hM.nil⟩
set_option maxRecDepth 100000 in
theorem cellKnown_lifted (os : Os) (started : os.Started) (H : Type) (enc : TypeId × Value → H) :
    ReturnsInHanded {} Try.checked os 5 .any (Rows.cellKnownSpec.pre6 enc Try.prog Try.f5 Rows.cellKnownRow.domain false) (Rows.cellKnownSpec.post enc Try.prog Try.f5 false true false false) := by
  refine law_lifted (C := Try.checked) (fn := Try.f5) (by kernel_rfl) started (by kernel_rfl) Try.func5 rfl (fun ds hl => ?_) rfl Try.underlying4 (by kernel_rfl) (of_decide_eq_true (by kernel_rfl)) (ChangeSpec.witness6 (enc := enc) (C := Try.checked) false ⟨#[], #[], []⟩ 8 (by kernel_rfl) (by kernel_rfl) (by kernel_rfl) (by kernel_rfl)) ?_
  · rw [Try.params5] at hl
    match ds, hl with
    | [], _ => rfl
  · intro W base args ds ps hval hA hw
    rw [Try.params5] at hA hval hw
    obtain ⟨hargs, rfl, rfl⟩ := trodAll_nil hA
    obtain rfl : args = #[] := by cases args; simp_all
    exact cellKnown_c W

/-- The statement. -/
theorem cellKnown_holds : Rows.CellKnownSaid :=
  OpenClaim.holds_of_wide 5 Try.f5 rfl rfl rfl rfl rfl rfl rfl ⟨rfl, rfl, rfl, rfl, rfl⟩ rfl rfl rfl rfl rfl (by kernel_rfl) Try.func5 (by kernel_rfl)
    (of_decide_eq_true (by kernel_rfl)) (by unfold Func.isWrapper; first | (rw [if_pos (by decide +kernel)]; kernel_rfl) | (rw [if_neg (by decide +kernel)]; exact ⟨rfl, rfl⟩))
    (fun os started H enc _ => cellKnown_lifted os started H enc)
#print axioms cellKnown_holds
end Go.Proofs.Ytafokhpokeipkaa
