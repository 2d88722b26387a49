/- HeaderGets of casematelaw24 returns true for whatever sectors; they read behind the call as before. No condition. -/
import Derived.Test.YtamjaacddbecaaaLl
set_option linter.unusedSimpArgs false
set_option linter.unusedVariables false
namespace Go.Proofs.Ytamjaacddbecaaa
open Go Go.Kx
open Go.ChangeShapes Go.WideShapes Go.ChangeAt Go.RowKit

set_option maxRecDepth 20000 in
set_option maxHeartbeats 2000000 in
theorem headerGets_c (u : Value) (ls : List (List UInt8)) (lc : Nat) (w : World) (hr_ls : (rd u 64 ls.length lc (ls.flatMap bv)).holds w) (ho_ls : ∀ x, x ∈ ls → x.length = 64) : Calls Try.prog 4 #[u] w fun e w' => e = .returned (.bool true) ∧ Mem w [] w' [] := by
  have hq20 : (ls.take (min ls.length 20)).length ≤ 20 := by rw [List.length_take]; omega
  have hM : Mem w [] w [rd u 64 ls.length lc (ls.flatMap bv)] := Mem.startR w (fun g hg => by
    simp only [List.mem_cons, List.not_mem_nil, or_false] at hg
    rcases hg with rfl
    · exact ⟨hr_ls, rfl⟩)
  refine f_enter 54 Try.func4 rfl rfl rfl ?_
  intro a hE
  replace hE : Env a 54 [(0, _)] := hE
  refine wp_seq_k (fun K1 hK1 => ?_)
  refine wp_plain [true] rfl rfl ?_
  refine s_assign hE rfl rfl ?_; clear hE a; intro a hE
  refine q_nil ?_
  refine hK1 _ _ ?_
  refine wp_seq_k (fun K2 hK2 => ?_)
  refine wp_plain [false, true, true, true, true, true, false, true] rfl rfl ?_
  refine s_buildSlice (xs := []) (([] : List (List UInt8)).flatMap bv) hE hM sl40 rfl rfl rfl (by intro v hv; cases hv) rfl rfl rfl rfl ?_; clear hE a; intro a v9 w1 hE hM'
  clear hM; have hM := hM'; clear hM'
  replace hM := hM.ownEq (m' := ([] : List (List UInt8)).length) (cs' := ([] : List (List UInt8)).flatMap bv) rfl rfl
  refine s_move hE rfl rfl ?_; clear hE a; intro a hE
  refine s_move hE rfl rfl ?_; clear hE a; intro a hE
  refine s_len hE rfl Try.underlying40 (rd_slice (hM.get 1 rfl)) rfl ?_; clear hE a; intro a hE
  refine s_min hE rfl rfl rfl ?_; clear hE a; intro a hE
  replace hE := hE.cast 13 rfl (show _ = Value.int .i64 ((min ls.length 20 : Nat) : Int) from congrArg (Value.int .i64) (by split <;> omega))
  have hcap14 := rd_len (hM.get 1 rfl)
  refine s_slice (l := 0) (h := min ls.length 20) (mx' := lc) hE rfl (hM.get 1 rfl) slt40 rfl ⟨_, rfl⟩ rfl (by simp) (Nat.zero_le _) (by first | omega | (simp; omega) | decide +kernel) (by first | omega | (simp; omega) | decide +kernel) (Nat.le_refl _) rfl ?_; clear hE a; intro a v14 hE hr14 hvb14
  replace hr14 := rd_takeR (f := bv) (ls := ls) (fun x hx => ((bv_length _).trans (ho_ls x hx))) (by first | omega | (simp; omega) | decide +kernel) hr14
  replace hM := hM.addPart 1 rfl hr14 hvb14; clear hr14
  replace hM : Mem _ _ w1 [_, _, _] := hM.pick [1, 0, 2] rfl
  refine s_append hE rfl rfl hM sl40 (Src.rd Try.underlying40 (hM.get 1 rfl) (bvs_one _)) (len47 (by first | omega | (simp; omega))) (by first | omega | (simp; omega)) (by intro X h; cases h) rfl ?_; clear hE a; intro a v15 w2 hE hM'; clear hM; have hM := hM'; clear hM'
  replace hM := hM.ownEq (m' := (ls.take (min ls.length 20)).length) (cs' := (ls.take (min ls.length 20)).flatMap bv) (by simp) rfl
  refine s_assign hE rfl rfl ?_; clear hE a; intro a hE
  refine q_nil ?_
  replace hE : Env a 54 [(2, _), (3, _)] := hE.sel [2, 3] rfl
  refine hK2 _ _ ?_
  refine wp_seq_k (fun K3 hK3 => ?_)
  refine wp_plain [false, true, false, true] rfl rfl ?_
  refine s_buildSlice (xs := []) (([] : List (List UInt8)).flatMap bv) hE hM sl40 rfl rfl rfl (by intro v hv; cases hv) rfl rfl rfl rfl ?_; clear hE a; intro a v16 w3 hE hM'
  clear hM; have hM := hM'; clear hM'
  replace hM := hM.ownEq (m' := ([] : List (List UInt8)).length) (cs' := ([] : List (List UInt8)).flatMap bv) rfl rfl
  refine s_move hE rfl rfl ?_; clear hE a; intro a hE
  obtain ⟨cq1, hq1⟩ := own_rd (hM.get 1 rfl)
  refine s_append hE rfl rfl hM sl40 (Src.rd Try.underlying40 hq1 (bvs_one _)) (len47 (by first | omega | (simp; omega))) (by first | omega | (simp; omega)) (by intro X h; cases h) rfl ?_; clear hE a; intro a v18 w4 hE hM'; clear hM; have hM := hM'; clear hM'
  replace hM := hM.ownEq (m' := (ls.take (min ls.length 20)).length) (cs' := (ls.take (min ls.length 20)).flatMap bv) (by simp) rfl
  refine s_assign hE rfl rfl ?_; clear hE a; intro a hE
  refine q_nil ?_
  replace hE : Env a 54 [(2, _), (3, _), (4, _)] := hE.sel [2, 3, 4] rfl
  refine hK3 _ _ ?_
  refine wp_seq_k (fun K4 hK4 => ?_)
  refine wp_plain [true, false, true, true, true, false, false, true] rfl rfl ?_
  refine s_move hE rfl rfl ?_; clear hE a; intro a hE
  obtain ⟨cq2, hq2⟩ := own_rd (hM.get 1 rfl)
  refine s_call hE rfl Try.call14 (hget_a _ (ls.take (min ls.length 20)) _ _ hq2 (ok_take ho_ls) (by omega)) rfl ?_
  rintro e w5 ⟨rfl, hN⟩
  refine ⟨_, rfl, trivial, ?_⟩; clear hE a; intro a hE
  replace hM : Mem _ _ w5 [_, _, _, _] := hM.call0 hN trivial; clear hN
  refine s_move hE rfl rfl ?_; clear hE a; intro a hE
  refine s_extract hE rfl rfl rfl ?_; clear hE a; intro a hE
  refine s_extract hE rfl rfl rfl ?_; clear hE a; intro a hE
  refine s_alloc [1, 1, 1, 1, 32, 32, 1, 1, 32, 32, 1, 1, 16, 32, 32, 1, 1, 16, 32, 32, 1, 1, 16, 32, 32, 1, 1, 16, 32, 32] hE hM zeroL39 rfl rfl ?_; clear hE a; intro a b5 w6 hE hM'
  clear hM; have hM := hM'; clear hM'
  have hsl60_4 : ((getHH (ls.take (min ls.length 20))).v0.2.2.1).length = 32 := (getHH_ok (ok_take ho_ls)).v0.2.1
  have hsl60_5 : ((getHH (ls.take (min ls.length 20))).v0.2.2.2).length = 32 := (getHH_ok (ok_take ho_ls)).v0.2.2
  have hsl60_8 : ((getHH (ls.take (min ls.length 20))).v1.2.2.1).length = 32 := (getHH_ok (ok_take ho_ls)).v1.2.1
  have hsl60_9 : ((getHH (ls.take (min ls.length 20))).v1.2.2.2).length = 32 := (getHH_ok (ok_take ho_ls)).v1.2.2
  have hsl60_12 : ((getHH (ls.take (min ls.length 20))).s0.2.2.1).length = 16 := (getHH_ok (ok_take ho_ls)).s0.2.1
  have hsl60_13 : ((getHH (ls.take (min ls.length 20))).s0.2.2.2.1).length = 32 := (getHH_ok (ok_take ho_ls)).s0.2.2.1
  have hsl60_14 : ((getHH (ls.take (min ls.length 20))).s0.2.2.2.2).length = 32 := (getHH_ok (ok_take ho_ls)).s0.2.2.2
  have hsl60_17 : ((getHH (ls.take (min ls.length 20))).s1.2.2.1).length = 16 := (getHH_ok (ok_take ho_ls)).s1.2.1
  have hsl60_18 : ((getHH (ls.take (min ls.length 20))).s1.2.2.2.1).length = 32 := (getHH_ok (ok_take ho_ls)).s1.2.2.1
  have hsl60_19 : ((getHH (ls.take (min ls.length 20))).s1.2.2.2.2).length = 32 := (getHH_ok (ok_take ho_ls)).s1.2.2.2
  have hsl60_22 : ((getHH (ls.take (min ls.length 20))).s2.2.2.1).length = 16 := (getHH_ok (ok_take ho_ls)).s2.2.1
  have hsl60_23 : ((getHH (ls.take (min ls.length 20))).s2.2.2.2.1).length = 32 := (getHH_ok (ok_take ho_ls)).s2.2.2.1
  have hsl60_24 : ((getHH (ls.take (min ls.length 20))).s2.2.2.2.2).length = 32 := (getHH_ok (ok_take ho_ls)).s2.2.2.2
  have hsl60_27 : ((getHH (ls.take (min ls.length 20))).s3.2.2.1).length = 16 := (getHH_ok (ok_take ho_ls)).s3.2.1
  have hsl60_28 : ((getHH (ls.take (min ls.length 20))).s3.2.2.2.1).length = 32 := (getHH_ok (ok_take ho_ls)).s3.2.2.1
  have hsl60_29 : ((getHH (ls.take (min ls.length 20))).s3.2.2.2.2).length = 32 := (getHH_ok (ok_take ho_ls)).s3.2.2.2
  refine s_storeSegs 0 30 (vss := [[.int .i64 ((getHH (ls.take (min ls.length 20))).m)], [.int .i64 ((getHH (ls.take (min ls.length 20))).r)], [.bool ((getHH (ls.take (min ls.length 20))).v0.1)], [.int .u64 (((getHH (ls.take (min ls.length 20))).v0.2.1 : Nat) : Int)], bv ((getHH (ls.take (min ls.length 20))).v0.2.2.1), bv ((getHH (ls.take (min ls.length 20))).v0.2.2.2), [.bool ((getHH (ls.take (min ls.length 20))).v1.1)], [.int .u64 (((getHH (ls.take (min ls.length 20))).v1.2.1 : Nat) : Int)], bv ((getHH (ls.take (min ls.length 20))).v1.2.2.1), bv ((getHH (ls.take (min ls.length 20))).v1.2.2.2), [.bool ((getHH (ls.take (min ls.length 20))).s0.1)], [.int .i64 ((getHH (ls.take (min ls.length 20))).s0.2.1)], bv ((getHH (ls.take (min ls.length 20))).s0.2.2.1), bv ((getHH (ls.take (min ls.length 20))).s0.2.2.2.1), bv ((getHH (ls.take (min ls.length 20))).s0.2.2.2.2), [.bool ((getHH (ls.take (min ls.length 20))).s1.1)], [.int .i64 ((getHH (ls.take (min ls.length 20))).s1.2.1)], bv ((getHH (ls.take (min ls.length 20))).s1.2.2.1), bv ((getHH (ls.take (min ls.length 20))).s1.2.2.2.1), bv ((getHH (ls.take (min ls.length 20))).s1.2.2.2.2), [.bool ((getHH (ls.take (min ls.length 20))).s2.1)], [.int .i64 ((getHH (ls.take (min ls.length 20))).s2.2.1)], bv ((getHH (ls.take (min ls.length 20))).s2.2.2.1), bv ((getHH (ls.take (min ls.length 20))).s2.2.2.2.1), bv ((getHH (ls.take (min ls.length 20))).s2.2.2.2.2), [.bool ((getHH (ls.take (min ls.length 20))).s3.1)], [.int .i64 ((getHH (ls.take (min ls.length 20))).s3.2.1)], bv ((getHH (ls.take (min ls.length 20))).s3.2.2.1), bv ((getHH (ls.take (min ls.length 20))).s3.2.2.2.1), bv ((getHH (ls.take (min ls.length 20))).s3.2.2.2.2)]) hE rfl rfl hM rfl sz39 (by simp only [List.take_succ_cons, List.take_zero, List.drop_zero, List.drop_succ_cons]; simp only [List.map_cons, List.map_nil, bv_length, List.length_cons, List.length_nil, List.length_replicate, hsl60_4, hsl60_5, hsl60_8, hsl60_9, hsl60_12, hsl60_13, hsl60_14, hsl60_17, hsl60_18, hsl60_19, hsl60_22, hsl60_23, hsl60_24, hsl60_27, hsl60_28, hsl60_29]) (by decide) rfl (one_fl ⟨one1 rfl, one1 rfl, one1 rfl, one1 rfl, bv_one _, bv_one _, one1 rfl, one1 rfl, bv_one _, bv_one _, one1 rfl, one1 rfl, bv_one _, bv_one _, bv_one _, one1 rfl, one1 rfl, bv_one _, bv_one _, bv_one _, one1 rfl, one1 rfl, bv_one _, bv_one _, bv_one _, one1 rfl, one1 rfl, bv_one _, bv_one _, bv_one _, trivial⟩) rfl (by intro X h; cases h) ?_; intro w7 hM'; clear hM; have hM := hM'; clear hM'
  try simp only [List.take_zero, List.take_succ_cons, List.drop_zero, List.drop_succ_cons, List.take_nil, List.drop_nil, List.nil_append, List.append_nil, List.cons_append] at hM
  refine s_assign hE rfl rfl ?_; clear hE a; intro a hE
  refine q_nil ?_
  replace hE : Env a 54 [(2, _), (3, _), (4, _), (5, _), (6, _)] := hE.sel [2, 3, 4, 5, 6] rfl
  refine hK4 _ _ ?_
  refine wp_seq_k (fun K5 hK5 => ?_)
  refine wp_plain [true, false, true, true, true, false, false, true] rfl rfl ?_
  refine s_move hE rfl rfl ?_; clear hE a; intro a hE
  obtain ⟨cq3, hq3⟩ := own_rd (hM.get 1 rfl)
  refine s_call hE rfl Try.call15 (rhget_a _ (ls.take (min ls.length 20)) _ _ hq3 (ok_take ho_ls) (by omega)) rfl ?_
  rintro e w8 ⟨rfl, hN⟩
  refine ⟨_, rfl, trivial, ?_⟩; clear hE a; intro a hE
  replace hM : Mem _ _ w8 [_, _, _, _, _] := hM.call0 hN trivial; clear hN
  refine s_move hE rfl rfl ?_; clear hE a; intro a hE
  refine s_extract hE rfl rfl rfl ?_; clear hE a; intro a hE
  refine s_extract hE rfl rfl rfl ?_; clear hE a; intro a hE
  refine s_alloc [1, 1, 1, 1, 32, 32, 1, 1, 32, 32, 1, 1, 16, 32, 32, 1, 1, 16, 32, 32, 1, 1, 16, 32, 32, 1, 1, 16, 32, 32] hE hM zeroL39 rfl rfl ?_; clear hE a; intro a b7 w9 hE hM'
  clear hM; have hM := hM'; clear hM'
  have hsl95_4 : ((getHH (ls.take (min ls.length 20))).v0.2.2.1).length = 32 := (getHH_ok (ok_take ho_ls)).v0.2.1
  have hsl95_5 : ((getHH (ls.take (min ls.length 20))).v0.2.2.2).length = 32 := (getHH_ok (ok_take ho_ls)).v0.2.2
  have hsl95_8 : ((getHH (ls.take (min ls.length 20))).v1.2.2.1).length = 32 := (getHH_ok (ok_take ho_ls)).v1.2.1
  have hsl95_9 : ((getHH (ls.take (min ls.length 20))).v1.2.2.2).length = 32 := (getHH_ok (ok_take ho_ls)).v1.2.2
  have hsl95_12 : ((getHH (ls.take (min ls.length 20))).s0.2.2.1).length = 16 := (getHH_ok (ok_take ho_ls)).s0.2.1
  have hsl95_13 : ((getHH (ls.take (min ls.length 20))).s0.2.2.2.1).length = 32 := (getHH_ok (ok_take ho_ls)).s0.2.2.1
  have hsl95_14 : ((getHH (ls.take (min ls.length 20))).s0.2.2.2.2).length = 32 := (getHH_ok (ok_take ho_ls)).s0.2.2.2
  have hsl95_17 : ((getHH (ls.take (min ls.length 20))).s1.2.2.1).length = 16 := (getHH_ok (ok_take ho_ls)).s1.2.1
  have hsl95_18 : ((getHH (ls.take (min ls.length 20))).s1.2.2.2.1).length = 32 := (getHH_ok (ok_take ho_ls)).s1.2.2.1
  have hsl95_19 : ((getHH (ls.take (min ls.length 20))).s1.2.2.2.2).length = 32 := (getHH_ok (ok_take ho_ls)).s1.2.2.2
  have hsl95_22 : ((getHH (ls.take (min ls.length 20))).s2.2.2.1).length = 16 := (getHH_ok (ok_take ho_ls)).s2.2.1
  have hsl95_23 : ((getHH (ls.take (min ls.length 20))).s2.2.2.2.1).length = 32 := (getHH_ok (ok_take ho_ls)).s2.2.2.1
  have hsl95_24 : ((getHH (ls.take (min ls.length 20))).s2.2.2.2.2).length = 32 := (getHH_ok (ok_take ho_ls)).s2.2.2.2
  have hsl95_27 : ((getHH (ls.take (min ls.length 20))).s3.2.2.1).length = 16 := (getHH_ok (ok_take ho_ls)).s3.2.1
  have hsl95_28 : ((getHH (ls.take (min ls.length 20))).s3.2.2.2.1).length = 32 := (getHH_ok (ok_take ho_ls)).s3.2.2.1
  have hsl95_29 : ((getHH (ls.take (min ls.length 20))).s3.2.2.2.2).length = 32 := (getHH_ok (ok_take ho_ls)).s3.2.2.2
  refine s_storeSegs 0 30 (vss := [[.int .i64 ((getHH (ls.take (min ls.length 20))).m)], [.int .i64 ((getHH (ls.take (min ls.length 20))).r)], [.bool ((getHH (ls.take (min ls.length 20))).v0.1)], [.int .u64 (((getHH (ls.take (min ls.length 20))).v0.2.1 : Nat) : Int)], bv ((getHH (ls.take (min ls.length 20))).v0.2.2.1), bv ((getHH (ls.take (min ls.length 20))).v0.2.2.2), [.bool ((getHH (ls.take (min ls.length 20))).v1.1)], [.int .u64 (((getHH (ls.take (min ls.length 20))).v1.2.1 : Nat) : Int)], bv ((getHH (ls.take (min ls.length 20))).v1.2.2.1), bv ((getHH (ls.take (min ls.length 20))).v1.2.2.2), [.bool ((getHH (ls.take (min ls.length 20))).s0.1)], [.int .i64 ((getHH (ls.take (min ls.length 20))).s0.2.1)], bv ((getHH (ls.take (min ls.length 20))).s0.2.2.1), bv ((getHH (ls.take (min ls.length 20))).s0.2.2.2.1), bv ((getHH (ls.take (min ls.length 20))).s0.2.2.2.2), [.bool ((getHH (ls.take (min ls.length 20))).s1.1)], [.int .i64 ((getHH (ls.take (min ls.length 20))).s1.2.1)], bv ((getHH (ls.take (min ls.length 20))).s1.2.2.1), bv ((getHH (ls.take (min ls.length 20))).s1.2.2.2.1), bv ((getHH (ls.take (min ls.length 20))).s1.2.2.2.2), [.bool ((getHH (ls.take (min ls.length 20))).s2.1)], [.int .i64 ((getHH (ls.take (min ls.length 20))).s2.2.1)], bv ((getHH (ls.take (min ls.length 20))).s2.2.2.1), bv ((getHH (ls.take (min ls.length 20))).s2.2.2.2.1), bv ((getHH (ls.take (min ls.length 20))).s2.2.2.2.2), [.bool ((getHH (ls.take (min ls.length 20))).s3.1)], [.int .i64 ((getHH (ls.take (min ls.length 20))).s3.2.1)], bv ((getHH (ls.take (min ls.length 20))).s3.2.2.1), bv ((getHH (ls.take (min ls.length 20))).s3.2.2.2.1), bv ((getHH (ls.take (min ls.length 20))).s3.2.2.2.2)]) hE rfl rfl hM rfl sz39 (by simp only [List.take_succ_cons, List.take_zero, List.drop_zero, List.drop_succ_cons]; simp only [List.map_cons, List.map_nil, bv_length, List.length_cons, List.length_nil, List.length_replicate, hsl95_4, hsl95_5, hsl95_8, hsl95_9, hsl95_12, hsl95_13, hsl95_14, hsl95_17, hsl95_18, hsl95_19, hsl95_22, hsl95_23, hsl95_24, hsl95_27, hsl95_28, hsl95_29]) (by decide) rfl (one_fl ⟨one1 rfl, one1 rfl, one1 rfl, one1 rfl, bv_one _, bv_one _, one1 rfl, one1 rfl, bv_one _, bv_one _, one1 rfl, one1 rfl, bv_one _, bv_one _, bv_one _, one1 rfl, one1 rfl, bv_one _, bv_one _, bv_one _, one1 rfl, one1 rfl, bv_one _, bv_one _, bv_one _, one1 rfl, one1 rfl, bv_one _, bv_one _, bv_one _, trivial⟩) rfl (by intro X h; cases h) ?_; intro w10 hM'; clear hM; have hM := hM'; clear hM'
  try simp only [List.take_zero, List.take_succ_cons, List.drop_zero, List.drop_succ_cons, List.take_nil, List.drop_nil, List.nil_append, List.append_nil, List.cons_append] at hM
  refine s_assign hE rfl rfl ?_; clear hE a; intro a hE
  refine q_nil ?_
  replace hE : Env a 54 [(2, _), (3, _), (4, _), (5, _), (6, _), (7, _), (8, _)] := hE.sel [2, 3, 4, 5, 6, 7, 8] rfl
  refine hK5 _ _ ?_
  refine wp_seq_k (fun K6 hK6 => ?_)
  refine wp_drawnM hM (by kernel_rfl) (fun _ => False) [(0, true), (1, true), (2, true), (3, true), (4, true), (5, true), (6, true), (7, true), (8, true), (9, true), (12, true), (10, false), (11, true), (13, false), (14, true), (15, true), (16, true), (17, true), (18, true), (19, true), (20, false), (21, true), (22, true), (23, false), (24, true), (25, true)] [(10, [(11, 10), (13, 10), (14, 13), (15, 11), (16, 15), (17, 16), (18, 17), (19, 17), (20, 17), (21, 17), (22, 20), (23, 22), (24, 22), (25, 10)]), (13, [(14, 13), (15, 14), (16, 15), (17, 13), (18, 17), (19, 17), (20, 17), (21, 17), (22, 20), (23, 22), (24, 22), (25, 13)]), (20, [(21, 20), (22, 20), (23, 22), (24, 22), (25, 20)]), (23, [(24, 23), (25, 23)])] (by kernel_rfl) rfl ?_
  intro w11 hM' hww11; clear hM; have hM := hM'; clear hM'
  refine s_loadN hE rfl (hM.get 1 rfl) row39 rfl (by intro X h; cases h; simp) rfl ?_; clear hE a; intro a hE
  replace hE := hE.cast 29 rfl (show _ = Value.agg ([[.int .i64 ((getHH (ls.take (min ls.length 20))).m)], [.int .i64 ((getHH (ls.take (min ls.length 20))).r)], [.bool ((getHH (ls.take (min ls.length 20))).v0.1)], [.int .u64 (((getHH (ls.take (min ls.length 20))).v0.2.1 : Nat) : Int)], bv ((getHH (ls.take (min ls.length 20))).v0.2.2.1), bv ((getHH (ls.take (min ls.length 20))).v0.2.2.2), [.bool ((getHH (ls.take (min ls.length 20))).v1.1)], [.int .u64 (((getHH (ls.take (min ls.length 20))).v1.2.1 : Nat) : Int)], bv ((getHH (ls.take (min ls.length 20))).v1.2.2.1), bv ((getHH (ls.take (min ls.length 20))).v1.2.2.2), [.bool ((getHH (ls.take (min ls.length 20))).s0.1)], [.int .i64 ((getHH (ls.take (min ls.length 20))).s0.2.1)], bv ((getHH (ls.take (min ls.length 20))).s0.2.2.1), bv ((getHH (ls.take (min ls.length 20))).s0.2.2.2.1), bv ((getHH (ls.take (min ls.length 20))).s0.2.2.2.2), [.bool ((getHH (ls.take (min ls.length 20))).s1.1)], [.int .i64 ((getHH (ls.take (min ls.length 20))).s1.2.1)], bv ((getHH (ls.take (min ls.length 20))).s1.2.2.1), bv ((getHH (ls.take (min ls.length 20))).s1.2.2.2.1), bv ((getHH (ls.take (min ls.length 20))).s1.2.2.2.2), [.bool ((getHH (ls.take (min ls.length 20))).s2.1)], [.int .i64 ((getHH (ls.take (min ls.length 20))).s2.2.1)], bv ((getHH (ls.take (min ls.length 20))).s2.2.2.1), bv ((getHH (ls.take (min ls.length 20))).s2.2.2.2.1), bv ((getHH (ls.take (min ls.length 20))).s2.2.2.2.2), [.bool ((getHH (ls.take (min ls.length 20))).s3.1)], [.int .i64 ((getHH (ls.take (min ls.length 20))).s3.2.1)], bv ((getHH (ls.take (min ls.length 20))).s3.2.2.1), bv ((getHH (ls.take (min ls.length 20))).s3.2.2.2.1), bv ((getHH (ls.take (min ls.length 20))).s3.2.2.2.2)] : List (List Value)).flatten.toArray from (by first | rfl | simp only [List.flatten_cons, List.flatten_nil, List.append_nil, List.append_assoc]))
  refine s_loadN hE rfl (hM.get 0 rfl) row39 rfl (by intro X h; cases h; simp) rfl ?_; clear hE a; intro a hE
  replace hE := hE.cast 30 rfl (show _ = Value.agg ([[.int .i64 ((getHH (ls.take (min ls.length 20))).m)], [.int .i64 ((getHH (ls.take (min ls.length 20))).r)], [.bool ((getHH (ls.take (min ls.length 20))).v0.1)], [.int .u64 (((getHH (ls.take (min ls.length 20))).v0.2.1 : Nat) : Int)], bv ((getHH (ls.take (min ls.length 20))).v0.2.2.1), bv ((getHH (ls.take (min ls.length 20))).v0.2.2.2), [.bool ((getHH (ls.take (min ls.length 20))).v1.1)], [.int .u64 (((getHH (ls.take (min ls.length 20))).v1.2.1 : Nat) : Int)], bv ((getHH (ls.take (min ls.length 20))).v1.2.2.1), bv ((getHH (ls.take (min ls.length 20))).v1.2.2.2), [.bool ((getHH (ls.take (min ls.length 20))).s0.1)], [.int .i64 ((getHH (ls.take (min ls.length 20))).s0.2.1)], bv ((getHH (ls.take (min ls.length 20))).s0.2.2.1), bv ((getHH (ls.take (min ls.length 20))).s0.2.2.2.1), bv ((getHH (ls.take (min ls.length 20))).s0.2.2.2.2), [.bool ((getHH (ls.take (min ls.length 20))).s1.1)], [.int .i64 ((getHH (ls.take (min ls.length 20))).s1.2.1)], bv ((getHH (ls.take (min ls.length 20))).s1.2.2.1), bv ((getHH (ls.take (min ls.length 20))).s1.2.2.2.1), bv ((getHH (ls.take (min ls.length 20))).s1.2.2.2.2), [.bool ((getHH (ls.take (min ls.length 20))).s2.1)], [.int .i64 ((getHH (ls.take (min ls.length 20))).s2.2.1)], bv ((getHH (ls.take (min ls.length 20))).s2.2.2.1), bv ((getHH (ls.take (min ls.length 20))).s2.2.2.2.1), bv ((getHH (ls.take (min ls.length 20))).s2.2.2.2.2), [.bool ((getHH (ls.take (min ls.length 20))).s3.1)], [.int .i64 ((getHH (ls.take (min ls.length 20))).s3.2.1)], bv ((getHH (ls.take (min ls.length 20))).s3.2.2.1), bv ((getHH (ls.take (min ls.length 20))).s3.2.2.2.1), bv ((getHH (ls.take (min ls.length 20))).s3.2.2.2.2)] : List (List Value)).flatten.toArray from (by first | rfl | simp only [List.flatten_cons, List.flatten_nil, List.append_nil, List.append_assoc]))
  refine s_bin hE rfl rfl ((eqk39 (b := decide ((((getHH (ls.take (min ls.length 20))).m) : Int) = ((getHH (ls.take (min ls.length 20))).m) ∧ (((getHH (ls.take (min ls.length 20))).r) : Int) = ((getHH (ls.take (min ls.length 20))).r) ∧ ((getHH (ls.take (min ls.length 20))).v0.1) = ((getHH (ls.take (min ls.length 20))).v0.1) ∧ ((((getHH (ls.take (min ls.length 20))).v0.2.1 : Nat) : Int) : Int) = (((getHH (ls.take (min ls.length 20))).v0.2.1 : Nat) : Int) ∧ ((getHH (ls.take (min ls.length 20))).v0.2.2.1) = ((getHH (ls.take (min ls.length 20))).v0.2.2.1) ∧ ((getHH (ls.take (min ls.length 20))).v0.2.2.2) = ((getHH (ls.take (min ls.length 20))).v0.2.2.2) ∧ ((getHH (ls.take (min ls.length 20))).v1.1) = ((getHH (ls.take (min ls.length 20))).v1.1) ∧ ((((getHH (ls.take (min ls.length 20))).v1.2.1 : Nat) : Int) : Int) = (((getHH (ls.take (min ls.length 20))).v1.2.1 : Nat) : Int) ∧ ((getHH (ls.take (min ls.length 20))).v1.2.2.1) = ((getHH (ls.take (min ls.length 20))).v1.2.2.1) ∧ ((getHH (ls.take (min ls.length 20))).v1.2.2.2) = ((getHH (ls.take (min ls.length 20))).v1.2.2.2) ∧ ((getHH (ls.take (min ls.length 20))).s0.1) = ((getHH (ls.take (min ls.length 20))).s0.1) ∧ (((getHH (ls.take (min ls.length 20))).s0.2.1) : Int) = ((getHH (ls.take (min ls.length 20))).s0.2.1) ∧ ((getHH (ls.take (min ls.length 20))).s0.2.2.1) = ((getHH (ls.take (min ls.length 20))).s0.2.2.1) ∧ ((getHH (ls.take (min ls.length 20))).s0.2.2.2.1) = ((getHH (ls.take (min ls.length 20))).s0.2.2.2.1) ∧ ((getHH (ls.take (min ls.length 20))).s0.2.2.2.2) = ((getHH (ls.take (min ls.length 20))).s0.2.2.2.2) ∧ ((getHH (ls.take (min ls.length 20))).s1.1) = ((getHH (ls.take (min ls.length 20))).s1.1) ∧ (((getHH (ls.take (min ls.length 20))).s1.2.1) : Int) = ((getHH (ls.take (min ls.length 20))).s1.2.1) ∧ ((getHH (ls.take (min ls.length 20))).s1.2.2.1) = ((getHH (ls.take (min ls.length 20))).s1.2.2.1) ∧ ((getHH (ls.take (min ls.length 20))).s1.2.2.2.1) = ((getHH (ls.take (min ls.length 20))).s1.2.2.2.1) ∧ ((getHH (ls.take (min ls.length 20))).s1.2.2.2.2) = ((getHH (ls.take (min ls.length 20))).s1.2.2.2.2) ∧ ((getHH (ls.take (min ls.length 20))).s2.1) = ((getHH (ls.take (min ls.length 20))).s2.1) ∧ (((getHH (ls.take (min ls.length 20))).s2.2.1) : Int) = ((getHH (ls.take (min ls.length 20))).s2.2.1) ∧ ((getHH (ls.take (min ls.length 20))).s2.2.2.1) = ((getHH (ls.take (min ls.length 20))).s2.2.2.1) ∧ ((getHH (ls.take (min ls.length 20))).s2.2.2.2.1) = ((getHH (ls.take (min ls.length 20))).s2.2.2.2.1) ∧ ((getHH (ls.take (min ls.length 20))).s2.2.2.2.2) = ((getHH (ls.take (min ls.length 20))).s2.2.2.2.2) ∧ ((getHH (ls.take (min ls.length 20))).s3.1) = ((getHH (ls.take (min ls.length 20))).s3.1) ∧ (((getHH (ls.take (min ls.length 20))).s3.2.1) : Int) = ((getHH (ls.take (min ls.length 20))).s3.2.1) ∧ ((getHH (ls.take (min ls.length 20))).s3.2.2.1) = ((getHH (ls.take (min ls.length 20))).s3.2.2.1) ∧ ((getHH (ls.take (min ls.length 20))).s3.2.2.2.1) = ((getHH (ls.take (min ls.length 20))).s3.2.2.2.1) ∧ ((getHH (ls.take (min ls.length 20))).s3.2.2.2.2) = ((getHH (ls.take (min ls.length 20))).s3.2.2.2.2))) (klL39 (k := 0) (x0 := ((getHH (ls.take (min ls.length 20))).m)) (x1 := ((getHH (ls.take (min ls.length 20))).r)) (x2 := (getHH (ls.take (min ls.length 20))).v0.1) (x3 := (((getHH (ls.take (min ls.length 20))).v0.2.1 : Nat) : Int)) (x4 := (getHH (ls.take (min ls.length 20))).v0.2.2.1) (x5 := (getHH (ls.take (min ls.length 20))).v0.2.2.2) (x6 := (getHH (ls.take (min ls.length 20))).v1.1) (x7 := (((getHH (ls.take (min ls.length 20))).v1.2.1 : Nat) : Int)) (x8 := (getHH (ls.take (min ls.length 20))).v1.2.2.1) (x9 := (getHH (ls.take (min ls.length 20))).v1.2.2.2) (x10 := (getHH (ls.take (min ls.length 20))).s0.1) (x11 := ((getHH (ls.take (min ls.length 20))).s0.2.1)) (x12 := (getHH (ls.take (min ls.length 20))).s0.2.2.1) (x13 := (getHH (ls.take (min ls.length 20))).s0.2.2.2.1) (x14 := (getHH (ls.take (min ls.length 20))).s0.2.2.2.2) (x15 := (getHH (ls.take (min ls.length 20))).s1.1) (x16 := ((getHH (ls.take (min ls.length 20))).s1.2.1)) (x17 := (getHH (ls.take (min ls.length 20))).s1.2.2.1) (x18 := (getHH (ls.take (min ls.length 20))).s1.2.2.2.1) (x19 := (getHH (ls.take (min ls.length 20))).s1.2.2.2.2) (x20 := (getHH (ls.take (min ls.length 20))).s2.1) (x21 := ((getHH (ls.take (min ls.length 20))).s2.2.1)) (x22 := (getHH (ls.take (min ls.length 20))).s2.2.2.1) (x23 := (getHH (ls.take (min ls.length 20))).s2.2.2.2.1) (x24 := (getHH (ls.take (min ls.length 20))).s2.2.2.2.2) (x25 := (getHH (ls.take (min ls.length 20))).s3.1) (x26 := ((getHH (ls.take (min ls.length 20))).s3.2.1)) (x27 := (getHH (ls.take (min ls.length 20))).s3.2.2.1) (x28 := (getHH (ls.take (min ls.length 20))).s3.2.2.2.1) (x29 := (getHH (ls.take (min ls.length 20))).s3.2.2.2.2) (wf_i64 (getHH_ok (ok_take ho_ls)).m) (wf_i64 (getHH_ok (ok_take ho_ls)).r) (wf_u64 (getHH_ok (ok_take ho_ls)).v0.1) (getHH_ok (ok_take ho_ls)).v0.2.1 (getHH_ok (ok_take ho_ls)).v0.2.2 (wf_u64 (getHH_ok (ok_take ho_ls)).v1.1) (getHH_ok (ok_take ho_ls)).v1.2.1 (getHH_ok (ok_take ho_ls)).v1.2.2 (wf_i64 (getHH_ok (ok_take ho_ls)).s0.1) (getHH_ok (ok_take ho_ls)).s0.2.1 (getHH_ok (ok_take ho_ls)).s0.2.2.1 (getHH_ok (ok_take ho_ls)).s0.2.2.2 (wf_i64 (getHH_ok (ok_take ho_ls)).s1.1) (getHH_ok (ok_take ho_ls)).s1.2.1 (getHH_ok (ok_take ho_ls)).s1.2.2.1 (getHH_ok (ok_take ho_ls)).s1.2.2.2 (wf_i64 (getHH_ok (ok_take ho_ls)).s2.1) (getHH_ok (ok_take ho_ls)).s2.2.1 (getHH_ok (ok_take ho_ls)).s2.2.2.1 (getHH_ok (ok_take ho_ls)).s2.2.2.2 (wf_i64 (getHH_ok (ok_take ho_ls)).s3.1) (getHH_ok (ok_take ho_ls)).s3.2.1 (getHH_ok (ok_take ho_ls)).s3.2.2.1 (getHH_ok (ok_take ho_ls)).s3.2.2.2) (klL39 (k := 0) (x0 := ((getHH (ls.take (min ls.length 20))).m)) (x1 := ((getHH (ls.take (min ls.length 20))).r)) (x2 := (getHH (ls.take (min ls.length 20))).v0.1) (x3 := (((getHH (ls.take (min ls.length 20))).v0.2.1 : Nat) : Int)) (x4 := (getHH (ls.take (min ls.length 20))).v0.2.2.1) (x5 := (getHH (ls.take (min ls.length 20))).v0.2.2.2) (x6 := (getHH (ls.take (min ls.length 20))).v1.1) (x7 := (((getHH (ls.take (min ls.length 20))).v1.2.1 : Nat) : Int)) (x8 := (getHH (ls.take (min ls.length 20))).v1.2.2.1) (x9 := (getHH (ls.take (min ls.length 20))).v1.2.2.2) (x10 := (getHH (ls.take (min ls.length 20))).s0.1) (x11 := ((getHH (ls.take (min ls.length 20))).s0.2.1)) (x12 := (getHH (ls.take (min ls.length 20))).s0.2.2.1) (x13 := (getHH (ls.take (min ls.length 20))).s0.2.2.2.1) (x14 := (getHH (ls.take (min ls.length 20))).s0.2.2.2.2) (x15 := (getHH (ls.take (min ls.length 20))).s1.1) (x16 := ((getHH (ls.take (min ls.length 20))).s1.2.1)) (x17 := (getHH (ls.take (min ls.length 20))).s1.2.2.1) (x18 := (getHH (ls.take (min ls.length 20))).s1.2.2.2.1) (x19 := (getHH (ls.take (min ls.length 20))).s1.2.2.2.2) (x20 := (getHH (ls.take (min ls.length 20))).s2.1) (x21 := ((getHH (ls.take (min ls.length 20))).s2.2.1)) (x22 := (getHH (ls.take (min ls.length 20))).s2.2.2.1) (x23 := (getHH (ls.take (min ls.length 20))).s2.2.2.2.1) (x24 := (getHH (ls.take (min ls.length 20))).s2.2.2.2.2) (x25 := (getHH (ls.take (min ls.length 20))).s3.1) (x26 := ((getHH (ls.take (min ls.length 20))).s3.2.1)) (x27 := (getHH (ls.take (min ls.length 20))).s3.2.2.1) (x28 := (getHH (ls.take (min ls.length 20))).s3.2.2.2.1) (x29 := (getHH (ls.take (min ls.length 20))).s3.2.2.2.2) (wf_i64 (getHH_ok (ok_take ho_ls)).m) (wf_i64 (getHH_ok (ok_take ho_ls)).r) (wf_u64 (getHH_ok (ok_take ho_ls)).v0.1) (getHH_ok (ok_take ho_ls)).v0.2.1 (getHH_ok (ok_take ho_ls)).v0.2.2 (wf_u64 (getHH_ok (ok_take ho_ls)).v1.1) (getHH_ok (ok_take ho_ls)).v1.2.1 (getHH_ok (ok_take ho_ls)).v1.2.2 (wf_i64 (getHH_ok (ok_take ho_ls)).s0.1) (getHH_ok (ok_take ho_ls)).s0.2.1 (getHH_ok (ok_take ho_ls)).s0.2.2.1 (getHH_ok (ok_take ho_ls)).s0.2.2.2 (wf_i64 (getHH_ok (ok_take ho_ls)).s1.1) (getHH_ok (ok_take ho_ls)).s1.2.1 (getHH_ok (ok_take ho_ls)).s1.2.2.1 (getHH_ok (ok_take ho_ls)).s1.2.2.2 (wf_i64 (getHH_ok (ok_take ho_ls)).s2.1) (getHH_ok (ok_take ho_ls)).s2.2.1 (getHH_ok (ok_take ho_ls)).s2.2.2.1 (getHH_ok (ok_take ho_ls)).s2.2.2.2 (wf_i64 (getHH_ok (ok_take ho_ls)).s3.1) (getHH_ok (ok_take ho_ls)).s3.2.1 (getHH_ok (ok_take ho_ls)).s3.2.2.1 (getHH_ok (ok_take ho_ls)).s3.2.2.2) (by rw [flat_eq (by have hl_x4 : ((getHH (ls.take (min ls.length 20))).v0.2.2.1).length = 32 := (getHH_ok (ok_take ho_ls)).v0.2.1; have hl_x5 : ((getHH (ls.take (min ls.length 20))).v0.2.2.2).length = 32 := (getHH_ok (ok_take ho_ls)).v0.2.2; have hl_x8 : ((getHH (ls.take (min ls.length 20))).v1.2.2.1).length = 32 := (getHH_ok (ok_take ho_ls)).v1.2.1; have hl_x9 : ((getHH (ls.take (min ls.length 20))).v1.2.2.2).length = 32 := (getHH_ok (ok_take ho_ls)).v1.2.2; have hl_x12 : ((getHH (ls.take (min ls.length 20))).s0.2.2.1).length = 16 := (getHH_ok (ok_take ho_ls)).s0.2.1; have hl_x13 : ((getHH (ls.take (min ls.length 20))).s0.2.2.2.1).length = 32 := (getHH_ok (ok_take ho_ls)).s0.2.2.1; have hl_x14 : ((getHH (ls.take (min ls.length 20))).s0.2.2.2.2).length = 32 := (getHH_ok (ok_take ho_ls)).s0.2.2.2; have hl_x17 : ((getHH (ls.take (min ls.length 20))).s1.2.2.1).length = 16 := (getHH_ok (ok_take ho_ls)).s1.2.1; have hl_x18 : ((getHH (ls.take (min ls.length 20))).s1.2.2.2.1).length = 32 := (getHH_ok (ok_take ho_ls)).s1.2.2.1; have hl_x19 : ((getHH (ls.take (min ls.length 20))).s1.2.2.2.2).length = 32 := (getHH_ok (ok_take ho_ls)).s1.2.2.2; have hl_x22 : ((getHH (ls.take (min ls.length 20))).s2.2.2.1).length = 16 := (getHH_ok (ok_take ho_ls)).s2.2.1; have hl_x23 : ((getHH (ls.take (min ls.length 20))).s2.2.2.2.1).length = 32 := (getHH_ok (ok_take ho_ls)).s2.2.2.1; have hl_x24 : ((getHH (ls.take (min ls.length 20))).s2.2.2.2.2).length = 32 := (getHH_ok (ok_take ho_ls)).s2.2.2.2; have hl_x27 : ((getHH (ls.take (min ls.length 20))).s3.2.2.1).length = 16 := (getHH_ok (ok_take ho_ls)).s3.2.1; have hl_x28 : ((getHH (ls.take (min ls.length 20))).s3.2.2.2.1).length = 32 := (getHH_ok (ok_take ho_ls)).s3.2.2.1; have hl_x29 : ((getHH (ls.take (min ls.length 20))).s3.2.2.2.2).length = 32 := (getHH_ok (ok_take ho_ls)).s3.2.2.2; have hl_y4 : ((getHH (ls.take (min ls.length 20))).v0.2.2.1).length = 32 := (getHH_ok (ok_take ho_ls)).v0.2.1; have hl_y5 : ((getHH (ls.take (min ls.length 20))).v0.2.2.2).length = 32 := (getHH_ok (ok_take ho_ls)).v0.2.2; have hl_y8 : ((getHH (ls.take (min ls.length 20))).v1.2.2.1).length = 32 := (getHH_ok (ok_take ho_ls)).v1.2.1; have hl_y9 : ((getHH (ls.take (min ls.length 20))).v1.2.2.2).length = 32 := (getHH_ok (ok_take ho_ls)).v1.2.2; have hl_y12 : ((getHH (ls.take (min ls.length 20))).s0.2.2.1).length = 16 := (getHH_ok (ok_take ho_ls)).s0.2.1; have hl_y13 : ((getHH (ls.take (min ls.length 20))).s0.2.2.2.1).length = 32 := (getHH_ok (ok_take ho_ls)).s0.2.2.1; have hl_y14 : ((getHH (ls.take (min ls.length 20))).s0.2.2.2.2).length = 32 := (getHH_ok (ok_take ho_ls)).s0.2.2.2; have hl_y17 : ((getHH (ls.take (min ls.length 20))).s1.2.2.1).length = 16 := (getHH_ok (ok_take ho_ls)).s1.2.1; have hl_y18 : ((getHH (ls.take (min ls.length 20))).s1.2.2.2.1).length = 32 := (getHH_ok (ok_take ho_ls)).s1.2.2.1; have hl_y19 : ((getHH (ls.take (min ls.length 20))).s1.2.2.2.2).length = 32 := (getHH_ok (ok_take ho_ls)).s1.2.2.2; have hl_y22 : ((getHH (ls.take (min ls.length 20))).s2.2.2.1).length = 16 := (getHH_ok (ok_take ho_ls)).s2.2.1; have hl_y23 : ((getHH (ls.take (min ls.length 20))).s2.2.2.2.1).length = 32 := (getHH_ok (ok_take ho_ls)).s2.2.2.1; have hl_y24 : ((getHH (ls.take (min ls.length 20))).s2.2.2.2.2).length = 32 := (getHH_ok (ok_take ho_ls)).s2.2.2.2; have hl_y27 : ((getHH (ls.take (min ls.length 20))).s3.2.2.1).length = 16 := (getHH_ok (ok_take ho_ls)).s3.2.1; have hl_y28 : ((getHH (ls.take (min ls.length 20))).s3.2.2.2.1).length = 32 := (getHH_ok (ok_take ho_ls)).s3.2.2.1; have hl_y29 : ((getHH (ls.take (min ls.length 20))).s3.2.2.2.2).length = 32 := (getHH_ok (ok_take ho_ls)).s3.2.2.2; simp only [List.map_cons, List.map_nil, bv_length, List.length_cons, List.length_nil, hl_x4, hl_x5, hl_x8, hl_x9, hl_x12, hl_x13, hl_x14, hl_x17, hl_x18, hl_x19, hl_x22, hl_x23, hl_x24, hl_x27, hl_x28, hl_x29, hl_y4, hl_y5, hl_y8, hl_y9, hl_y12, hl_y13, hl_y14, hl_y17, hl_y18, hl_y19, hl_y22, hl_y23, hl_y24, hl_y27, hl_y28, hl_y29])]; simp [bv_iff, Int.ofNat_inj]; try omega)).1) rfl ?_; clear hE a; intro a hE
  refine s_move hE rfl rfl ?_; clear hE a; intro a hE
  replace hE := hE.cast 32 rfl (show _ = Value.bool true from (congrArg Value.bool (by first | (with_reducible exact decide_eq_true rfl) | (simp; done))))
  refine g_yes hE rfl rfl ?_
  refine s_move hE rfl rfl ?_; clear hE a; intro a hE
  refine g_yes hE rfl rfl ?_
  refine s_move hE rfl rfl ?_; clear hE a; intro a hE
  refine g_yes hE rfl rfl ?_
  refine s_bin hE rfl rfl bin_eql rfl ?_; clear hE a; intro a hE
  refine s_pickt hE rfl rfl rfl ?_; clear hE a; intro a hE
  refine s_move hE rfl rfl ?_; clear hE a; intro a hE
  replace hE := hE.cast 37 rfl (show _ = Value.bool true from (congrArg Value.bool (by first | (with_reducible exact decide_eq_true rfl) | (simp; done))))
  refine g_yes hE rfl rfl ?_
  refine s_move hE rfl rfl ?_; clear hE a; intro a hE
  refine g_yes hE rfl rfl ?_
  refine s_move hE rfl rfl ?_; clear hE a; intro a hE
  refine g_yes hE rfl rfl ?_
  obtain ⟨cq4, hq4⟩ := own_rd (hM.get 3 rfl)
  refine s_call hE rfl Try.call16 (hbytes_c _ (ls.take (min ls.length 20)) _ _ hq4 (ok_take ho_ls) (by omega)) rfl ?_
  rintro e w12 ⟨v39, rfl, hN⟩
  refine ⟨_, rfl, hN.sta0 _, ?_⟩; clear hE a; intro a hE
  replace hM : Mem _ _ w12 [_, _, _, _, _, _, _] := hM.call0 hN ⟨rfl, trivial⟩; clear hN
  refine g_yes hE rfl rfl ?_
  obtain ⟨cs40, hs40⟩ := own_rd (hM.get 0 rfl)
  refine s_toStr hE rfl Try.underlying55 Try.underlying5 Try.underlying9 hs40 (by intro X h; cases h; simp) rfl ?_; clear hE a; intro a hE
  refine g_yes hE rfl rfl ?_
  obtain ⟨cq5, hq5⟩ := own_rd (hM.get 3 rfl)
  refine s_call hE rfl Try.call17 (rhbytes_c _ (ls.take (min ls.length 20)) _ _ hq5 (ok_take ho_ls) (by omega)) rfl ?_
  rintro e w13 ⟨v42, rfl, hN⟩
  refine ⟨_, rfl, hN.sta0 _, ?_⟩; clear hE a; intro a hE
  replace hM : Mem _ _ w13 [_, _, _, _, _, _, _, _] := hM.call0 hN ⟨rfl, trivial⟩; clear hN
  refine g_yes hE rfl rfl ?_
  obtain ⟨cs43, hs43⟩ := own_rd (hM.get 0 rfl)
  refine s_toStr hE rfl Try.underlying55 Try.underlying5 Try.underlying9 hs43 (by intro X h; cases h; simp) rfl ?_; clear hE a; intro a hE
  refine g_yes hE rfl rfl ?_
  refine s_bin hE rfl rfl bins_str.1 rfl ?_; clear hE a; intro a hE
  refine s_pickt hE rfl rfl rfl ?_; clear hE a; intro a hE
  refine s_move hE rfl rfl ?_; clear hE a; intro a hE
  replace hE := hE.cast 46 rfl (show _ = Value.bool true from (congrArg Value.bool (by first | (with_reducible exact decide_eq_true rfl) | (simp; done))))
  refine g_yes hE rfl rfl ?_
  refine s_move hE rfl rfl ?_; clear hE a; intro a hE
  refine g_yes hE rfl rfl ?_
  refine s_move hE rfl rfl ?_; clear hE a; intro a hE
  refine g_yes hE rfl rfl ?_
  obtain ⟨cq6, hq6⟩ := own_rd (hM.get 5 rfl)
  obtain ⟨cq7, hq7⟩ := own_rd (hM.get 4 rfl)
  refine s_call hE rfl Try.call12 (rsame2_c _ (ls.take (min ls.length 20)) _ _ (ls.take (min ls.length 20)) _ _ hq6 (ok_take ho_ls) hq7 (ok_take ho_ls) (by omega)) rfl ?_
  rintro e w14 ⟨rfl, hN⟩
  refine ⟨_, rfl, hN.sta0 _, ?_⟩; clear hE a; intro a hE
  replace hM : Mem _ _ w14 [_, _, _, _, _, _, _, _] := hM.call0 hN trivial; clear hN
  refine s_pickt hE rfl rfl rfl ?_; clear hE a; intro a hE
  refine s_move hE rfl rfl ?_; clear hE a; intro a hE
  replace hE := hE.cast 51 rfl (show _ = Value.bool true from (congrArg Value.bool (by first | (with_reducible exact decide_eq_true rfl) | (simp; done))))
  refine g_yes hE rfl rfl ?_
  refine s_call hE rfl Try.call13 (works24_c  _ ) rfl ?_
  rintro e w15 ⟨rfl, hN⟩
  refine ⟨_, rfl, hN.sta0 _, ?_⟩; clear hE a; intro a hE
  replace hM : Mem _ _ w15 [_, _, _, _, _, _, _, _] := hM.call0 hN trivial; clear hN
  refine s_pickt hE rfl rfl rfl ?_; clear hE a; intro a hE
  refine s_assign hE rfl rfl ?_; clear hE a; intro a hE
  refine q_nil ?_
  replace hE : Env a 54 [(2, _), (3, _), (4, _), (5, _), (7, _)] := hE.sel [2, 3, 4, 5, 7] rfl
  refine hK6 _ _ ?_
  refine wp_ret ?_
  refine f_ret1 hE rfl rfl ?_
  exact ⟨(by first | rfl | (simp; done)), hM.pick [] rfl⟩
set_option maxRecDepth 100000 in
theorem headerGets_lifted (os : Os) (started : os.Started) (H : Type) (enc : TypeId × Value → H) :
    ReturnsInHanded {} Try.checked os 4 .any (Rows.headerGetsSpec.pre6 enc Try.prog Try.f4 Rows.headerGetsRow.domain false) (Rows.headerGetsSpec.post enc Try.prog Try.f4 false true false false) := by
  refine law_lifted (C := Try.checked) (fn := Try.f4) (by kernel_rfl) started (by kernel_rfl) Try.func4 rfl (fun ds hl => ?_) rfl Try.underlying4 (by kernel_rfl) (of_decide_eq_true (by kernel_rfl)) (ChangeSpec.witness6 (enc := enc) (C := Try.checked) false ⟨#[], #[.slice none 0 0], []⟩ 8 (by kernel_rfl) (by kernel_rfl) (by kernel_rfl) (by kernel_rfl)) ?_
  · rw [Try.params4] at hl
    match ds, hl with
    | [_], _ => rfl
  · intro W base args ds ps hval hA hw
    rw [Try.params4] at hA hval hw
    obtain ⟨v0, vs0, d0, ds0, p0, q0, hargs, rfl, rfl, h0, r0⟩ := trodAll_cons hA
    obtain ⟨rfl, rfl, rfl⟩ := trodAll_nil r0
    obtain rfl : args = #[v0] := by cases args; simp_all
    obtain ⟨ls0, k0, hr0, ho0, hn0⟩ := arg_rowsB (es := 64) (by_ := 64) Try.underlying40 (by kernel_rfl) (by kernel_rfl) (by decide) (by decide) (dec_secs Try.underlying59 Try.underlying5 (by kernel_rfl) (by kernel_rfl)) (hval 0 40 v0 rfl rfl) h0 (fun m hm => hw m (by simp only [DataW.weightsEach, List.mem_append]; exact .inl hm))
    exact headerGets_c v0 ls0 k0 W hr0 ho0

/-- The statement. -/
theorem headerGets_holds : Rows.HeaderGetsSaid :=
  OpenClaim.holds_of_wide 4 Try.f4 rfl rfl rfl rfl rfl rfl rfl ⟨rfl, rfl, rfl, rfl, rfl⟩ rfl rfl rfl rfl rfl (by kernel_rfl) Try.func4 (by kernel_rfl)
    (of_decide_eq_true (by kernel_rfl)) (by unfold Func.isWrapper; first | (rw [if_pos (by decide +kernel)]; kernel_rfl) | (rw [if_neg (by decide +kernel)]; exact ⟨rfl, rfl⟩))
    (fun os started H enc _ => headerGets_lifted os started H enc)
#print axioms headerGets_holds
end Go.Proofs.Ytamjaacddbecaaa
