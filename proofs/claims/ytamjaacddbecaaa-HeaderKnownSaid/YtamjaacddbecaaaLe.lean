/- Walks of functions of the given program that the claim reaches. -/
import Derived.Test.YtamjaacddbecaaaLd
set_option linter.unusedSimpArgs false
set_option linter.unusedVariables false
namespace Go.Proofs.Ytamjaacddbecaaa
open Go Go.Kx

set_option maxRecDepth 20000 in
set_option maxHeartbeats 2000000 in
theorem hget_ok (u : Value) (ls : List (List UInt8)) (lc : Nat) (w : World) (hr_ls : (rd u 64 ls.length lc (ls.flatMap bv)).holds w) (ho_ls : ∀ x, x ∈ ls → x.length = 64) (hg : getOkH ls = true) (hlg : longB (readH ls.flatten) = false) : Calls Try.prog 14 #[u] w fun e w' => e = .returned (.tuple #[.agg ([[.int .i64 ((readH ls.flatten).m)], [.int .i64 ((readH ls.flatten).r)], [.bool ((readH ls.flatten).v0.1)], [.int .u64 (((readH ls.flatten).v0.2.1 : Nat) : Int)], bv ((readH ls.flatten).v0.2.2.1), bv ((readH ls.flatten).v0.2.2.2), [.bool ((readH ls.flatten).v1.1)], [.int .u64 (((readH ls.flatten).v1.2.1 : Nat) : Int)], bv ((readH ls.flatten).v1.2.2.1), bv ((readH ls.flatten).v1.2.2.2), [.bool ((readH ls.flatten).s0.1)], [.int .i64 ((readH ls.flatten).s0.2.1)], bv ((readH ls.flatten).s0.2.2.1), bv ((readH ls.flatten).s0.2.2.2.1), bv ((readH ls.flatten).s0.2.2.2.2), [.bool ((readH ls.flatten).s1.1)], [.int .i64 ((readH ls.flatten).s1.2.1)], bv ((readH ls.flatten).s1.2.2.1), bv ((readH ls.flatten).s1.2.2.2.1), bv ((readH ls.flatten).s1.2.2.2.2), [.bool ((readH ls.flatten).s2.1)], [.int .i64 ((readH ls.flatten).s2.2.1)], bv ((readH ls.flatten).s2.2.2.1), bv ((readH ls.flatten).s2.2.2.2.1), bv ((readH ls.flatten).s2.2.2.2.2), [.bool ((readH ls.flatten).s3.1)], [.int .i64 ((readH ls.flatten).s3.2.1)], bv ((readH ls.flatten).s3.2.2.1), bv ((readH ls.flatten).s3.2.2.2.1), bv ((readH ls.flatten).s3.2.2.2.2)] : List (List Value)).flatten.toArray, .int .i64 0]) ∧ Mem w [] w' [] := by
  obtain ⟨hl8, hs, hpd⟩ := getOkH_facts hg
  have hfl := flats_len ho_ls
  have hl496 : 496 ≤ ls.flatten.length := by omega
  have hLY := layH_len (readH_ok hl496)
  have hCF := cutH_flat hLY
  have hM : Mem w [] w [rd u 64 ls.length lc (ls.flatMap bv)] := Mem.startR w (fun g hg => by
    simp only [List.mem_cons, List.not_mem_nil, or_false] at hg
    rcases hg with rfl
    · exact ⟨hr_ls, rfl⟩)
  refine f_enter 34 Try.func14 rfl rfl rfl ?_
  intro a hE
  replace hE : Env a 34 [(0, _)] := hE
  refine wp_seq_k (fun K1 hK1 => ?_)
  refine wp_plain [false, true] rfl rfl ?_
  refine s_alloc [1, 1, 1, 1, 32, 32, 1, 1, 32, 32, 1, 1, 16, 32, 32, 1, 1, 16, 32, 32, 1, 1, 16, 32, 32, 1, 1, 16, 32, 32] hE hM zeroL39 rfl rfl ?_; clear hE a; intro a b2 w1 hE hM'
  clear hM; have hM := hM'; clear hM'
  refine s_assign hE rfl rfl ?_; clear hE a; intro a hE
  refine q_nil ?_
  refine hK1 _ _ ?_
  refine wp_seq_k (fun K2 hK2 => ?_)
  refine wp_plain [true, false, true] rfl rfl ?_
  refine s_move hE rfl rfl ?_; clear hE a; intro a hE
  refine s_call hE rfl Try.call16 (hbytes_c _ ls _ _ (hM.get 1 rfl) ho_ls (by first | omega | assumption | (simp; done) | (simp; omega) | decide)) rfl ?_
  rintro e w2 ⟨v7, rfl, hN⟩
  refine ⟨_, rfl, trivial, ?_⟩; clear hE a; intro a hE
  replace hM : Mem _ _ w2 [_, _, _] := hM.call0 hN ⟨rfl, trivial⟩; clear hN
  refine s_assign hE rfl rfl ?_; clear hE a; intro a hE
  refine q_nil ?_
  replace hE : Env a 34 [(0, _), (2, _), (3, _), (4, _)] := hE.sel [0, 2, 3, 4] rfl
  refine hK2 _ _ ?_
  refine wp_seq_k (fun K3 hK3 => ?_)
  refine wp_plain [true, false, false, false, false] rfl rfl ?_
  refine s_move hE rfl rfl ?_; clear hE a; intro a hE
  obtain ⟨cq1, hq1⟩ := own_rd (hM.get 0 rfl)
  refine s_call hE rfl Try.call28 (open_c ls.flatten _ _ _ hq1 (by first | omega | (simp; done) | (simp; omega))) rfl ?_
  rintro e w3 ⟨tb9, bb9, rfl, hbb9, hN⟩
  refine ⟨_, rfl, trivial, ?_⟩; clear hE a; intro a hE
  replace hM : Mem _ _ w3 [_, _, _, _] := hM.callN hN (fun e he x hx => by rw [List.mem_singleton.1 he] at hx; exact hbb9 x hx); clear hN
  refine s_call hE rfl Try.call27 (hread_c tb9 bb9 ls.flatten _ (hM.get 0 rfl) (by omega) (by omega)) rfl ?_
  rintro e w4 ⟨rfl, hN⟩
  refine ⟨_, rfl, trivial, ?_⟩; clear hE a; intro a hE
  replace hM : Mem _ _ w4 [_, _, _, _] := hM.call1 hN (fun f hf x hx => by rw [List.mem_singleton.1 hf] at hx; exact .inl hx); clear hN
  refine s_alloc [1, 1, 1, 1, 32, 32, 1, 1, 32, 32, 1, 1, 16, 32, 32, 1, 1, 16, 32, 32, 1, 1, 16, 32, 32, 1, 1, 16, 32, 32] hE hM zeroL39 rfl rfl ?_; clear hE a; intro a b5 w5 hE hM'
  clear hM; have hM := hM'; clear hM'
  have hsl44_4 : ((readH ls.flatten).v0.2.2.1).length = 32 := (readH_ok hl496).v0.2.1
  have hsl44_5 : ((readH ls.flatten).v0.2.2.2).length = 32 := (readH_ok hl496).v0.2.2
  have hsl44_8 : ((readH ls.flatten).v1.2.2.1).length = 32 := (readH_ok hl496).v1.2.1
  have hsl44_9 : ((readH ls.flatten).v1.2.2.2).length = 32 := (readH_ok hl496).v1.2.2
  have hsl44_12 : ((readH ls.flatten).s0.2.2.1).length = 16 := (readH_ok hl496).s0.2.1
  have hsl44_13 : ((readH ls.flatten).s0.2.2.2.1).length = 32 := (readH_ok hl496).s0.2.2.1
  have hsl44_14 : ((readH ls.flatten).s0.2.2.2.2).length = 32 := (readH_ok hl496).s0.2.2.2
  have hsl44_17 : ((readH ls.flatten).s1.2.2.1).length = 16 := (readH_ok hl496).s1.2.1
  have hsl44_18 : ((readH ls.flatten).s1.2.2.2.1).length = 32 := (readH_ok hl496).s1.2.2.1
  have hsl44_19 : ((readH ls.flatten).s1.2.2.2.2).length = 32 := (readH_ok hl496).s1.2.2.2
  have hsl44_22 : ((readH ls.flatten).s2.2.2.1).length = 16 := (readH_ok hl496).s2.2.1
  have hsl44_23 : ((readH ls.flatten).s2.2.2.2.1).length = 32 := (readH_ok hl496).s2.2.2.1
  have hsl44_24 : ((readH ls.flatten).s2.2.2.2.2).length = 32 := (readH_ok hl496).s2.2.2.2
  have hsl44_27 : ((readH ls.flatten).s3.2.2.1).length = 16 := (readH_ok hl496).s3.2.1
  have hsl44_28 : ((readH ls.flatten).s3.2.2.2.1).length = 32 := (readH_ok hl496).s3.2.2.1
  have hsl44_29 : ((readH ls.flatten).s3.2.2.2.2).length = 32 := (readH_ok hl496).s3.2.2.2
  refine s_storeSegs 0 30 (vss := [[.int .i64 ((readH ls.flatten).m)], [.int .i64 ((readH ls.flatten).r)], [.bool ((readH ls.flatten).v0.1)], [.int .u64 (((readH ls.flatten).v0.2.1 : Nat) : Int)], bv ((readH ls.flatten).v0.2.2.1), bv ((readH ls.flatten).v0.2.2.2), [.bool ((readH ls.flatten).v1.1)], [.int .u64 (((readH ls.flatten).v1.2.1 : Nat) : Int)], bv ((readH ls.flatten).v1.2.2.1), bv ((readH ls.flatten).v1.2.2.2), [.bool ((readH ls.flatten).s0.1)], [.int .i64 ((readH ls.flatten).s0.2.1)], bv ((readH ls.flatten).s0.2.2.1), bv ((readH ls.flatten).s0.2.2.2.1), bv ((readH ls.flatten).s0.2.2.2.2), [.bool ((readH ls.flatten).s1.1)], [.int .i64 ((readH ls.flatten).s1.2.1)], bv ((readH ls.flatten).s1.2.2.1), bv ((readH ls.flatten).s1.2.2.2.1), bv ((readH ls.flatten).s1.2.2.2.2), [.bool ((readH ls.flatten).s2.1)], [.int .i64 ((readH ls.flatten).s2.2.1)], bv ((readH ls.flatten).s2.2.2.1), bv ((readH ls.flatten).s2.2.2.2.1), bv ((readH ls.flatten).s2.2.2.2.2), [.bool ((readH ls.flatten).s3.1)], [.int .i64 ((readH ls.flatten).s3.2.1)], bv ((readH ls.flatten).s3.2.2.1), bv ((readH ls.flatten).s3.2.2.2.1), bv ((readH ls.flatten).s3.2.2.2.2)]) hE rfl rfl hM rfl sz39 (by simp only [List.take_succ_cons, List.take_zero, List.drop_zero, List.drop_succ_cons]; simp only [List.map_cons, List.map_nil, bv_length, List.length_cons, List.length_nil, List.length_replicate, hsl44_4, hsl44_5, hsl44_8, hsl44_9, hsl44_12, hsl44_13, hsl44_14, hsl44_17, hsl44_18, hsl44_19, hsl44_22, hsl44_23, hsl44_24, hsl44_27, hsl44_28, hsl44_29]) (by decide) rfl (one_fl ⟨one1 rfl, one1 rfl, one1 rfl, one1 rfl, bv_one _, bv_one _, one1 rfl, one1 rfl, bv_one _, bv_one _, one1 rfl, one1 rfl, bv_one _, bv_one _, bv_one _, one1 rfl, one1 rfl, bv_one _, bv_one _, bv_one _, one1 rfl, one1 rfl, bv_one _, bv_one _, bv_one _, one1 rfl, one1 rfl, bv_one _, bv_one _, bv_one _, trivial⟩) rfl (by intro X h; cases h) ?_; intro w6 hM'; clear hM; have hM := hM'; clear hM'
  try simp only [List.take_zero, List.take_succ_cons, List.drop_zero, List.drop_succ_cons, List.take_nil, List.drop_nil, List.nil_append, List.append_nil, List.cons_append] at hM
  refine q_nil ?_
  replace hE : Env a 34 [(0, _), (2, _), (3, _), (4, _), (5, _)] := hE.sel [0, 2, 3, 4, 5] rfl
  refine hK3 _ _ ?_
  refine wp_seq_k (fun K4 hK4 => ?_)
  refine wp_seq_k (fun K5 hK5 => ?_)
  refine wp_drawnM hM (by kernel_rfl) (fun _ => False) [(0, true), (1, true), (2, true), (3, true), (4, true), (5, false), (6, true), (7, true), (8, true), (9, true), (14, true), (15, true), (10, false), (11, false), (12, false), (13, true), (16, true), (17, true)] [(5, [(6, 5), (7, 6), (8, 5), (9, 8), (14, 8), (15, 8), (10, 8), (11, 8), (12, 8), (13, 8), (16, 8), (17, 8)]), (10, [(11, 10), (12, 11), (13, 12), (16, 13), (17, 16)]), (11, [(12, 11), (13, 12), (16, 13), (17, 16)]), (12, [(13, 12), (16, 13), (17, 16)])] (by kernel_rfl) rfl ?_
  intro w7 hM' hww7; clear hM; have hM := hM'; clear hM'
  refine s_move hE rfl rfl ?_; clear hE a; intro a hE
  refine s_len hE rfl Try.underlying40 (rd_slice (hM.get 4 rfl)) rfl ?_; clear hE a; intro a hE
  refine s_bin hE rfl rfl bin_neq rfl ?_; clear hE a; intro a hE
  refine s_move hE rfl rfl ?_; clear hE a; intro a hE
  replace hE := hE.cast 14 rfl (show _ = Value.bool false from (congrArg Value.bool (by first | rfl | (simp only [hs, hl8, hpd, hCF, hlg]; done) | (simp [hs, hl8, hpd, hCF, hlg]; done))))
  refine g_yes hE rfl rfl ?_
  refine s_loadN hE rfl (hM.get 0 rfl) row39 rfl (by intro X h; cases h; simp) rfl ?_; clear hE a; intro a hE
  replace hE := hE.cast 15 rfl (show _ = Value.agg ([[.int .i64 ((readH ls.flatten).m)], [.int .i64 ((readH ls.flatten).r)], [.bool ((readH ls.flatten).v0.1)], [.int .u64 (((readH ls.flatten).v0.2.1 : Nat) : Int)], bv ((readH ls.flatten).v0.2.2.1), bv ((readH ls.flatten).v0.2.2.2), [.bool ((readH ls.flatten).v1.1)], [.int .u64 (((readH ls.flatten).v1.2.1 : Nat) : Int)], bv ((readH ls.flatten).v1.2.2.1), bv ((readH ls.flatten).v1.2.2.2), [.bool ((readH ls.flatten).s0.1)], [.int .i64 ((readH ls.flatten).s0.2.1)], bv ((readH ls.flatten).s0.2.2.1), bv ((readH ls.flatten).s0.2.2.2.1), bv ((readH ls.flatten).s0.2.2.2.2), [.bool ((readH ls.flatten).s1.1)], [.int .i64 ((readH ls.flatten).s1.2.1)], bv ((readH ls.flatten).s1.2.2.1), bv ((readH ls.flatten).s1.2.2.2.1), bv ((readH ls.flatten).s1.2.2.2.2), [.bool ((readH ls.flatten).s2.1)], [.int .i64 ((readH ls.flatten).s2.2.1)], bv ((readH ls.flatten).s2.2.2.1), bv ((readH ls.flatten).s2.2.2.2.1), bv ((readH ls.flatten).s2.2.2.2.2), [.bool ((readH ls.flatten).s3.1)], [.int .i64 ((readH ls.flatten).s3.2.1)], bv ((readH ls.flatten).s3.2.2.1), bv ((readH ls.flatten).s3.2.2.2.1), bv ((readH ls.flatten).s3.2.2.2.2)] : List (List Value)).flatten.toArray from (by first | rfl | simp only [List.flatten_cons, List.flatten_nil, List.append_nil, List.append_assoc]))
  refine g_yes hE rfl rfl ?_
  refine s_call hE rfl Try.call23 (shaped_c (readH ls.flatten) _ (readH_ok hl496) ) rfl ?_
  rintro e w8 ⟨rfl, hN⟩
  refine ⟨_, rfl, hN.sta0 _, ?_⟩; clear hE a; intro a hE
  replace hM : Mem _ _ w8 [_, _, _, _, _] := hM.call0 hN trivial; clear hN
  refine g_yes hE rfl rfl ?_
  refine s_not hE rfl rfl ?_; clear hE a; intro a hE
  refine s_pickf hE rfl rfl rfl ?_; clear hE a; intro a hE
  refine s_move hE rfl rfl ?_; clear hE a; intro a hE
  replace hE := hE.cast 19 rfl (show _ = Value.bool false from (congrArg Value.bool (by first | rfl | (simp only [hs, hl8, hpd, hCF, hlg]; done) | (simp [hs, hl8, hpd, hCF, hlg]; done))))
  refine g_yes hE rfl rfl ?_
  refine s_loadN hE rfl (hM.get 0 rfl) row39 rfl (by intro X h; cases h; simp) rfl ?_; clear hE a; intro a hE
  replace hE := hE.cast 20 rfl (show _ = Value.agg ([[.int .i64 ((readH ls.flatten).m)], [.int .i64 ((readH ls.flatten).r)], [.bool ((readH ls.flatten).v0.1)], [.int .u64 (((readH ls.flatten).v0.2.1 : Nat) : Int)], bv ((readH ls.flatten).v0.2.2.1), bv ((readH ls.flatten).v0.2.2.2), [.bool ((readH ls.flatten).v1.1)], [.int .u64 (((readH ls.flatten).v1.2.1 : Nat) : Int)], bv ((readH ls.flatten).v1.2.2.1), bv ((readH ls.flatten).v1.2.2.2), [.bool ((readH ls.flatten).s0.1)], [.int .i64 ((readH ls.flatten).s0.2.1)], bv ((readH ls.flatten).s0.2.2.1), bv ((readH ls.flatten).s0.2.2.2.1), bv ((readH ls.flatten).s0.2.2.2.2), [.bool ((readH ls.flatten).s1.1)], [.int .i64 ((readH ls.flatten).s1.2.1)], bv ((readH ls.flatten).s1.2.2.1), bv ((readH ls.flatten).s1.2.2.2.1), bv ((readH ls.flatten).s1.2.2.2.2), [.bool ((readH ls.flatten).s2.1)], [.int .i64 ((readH ls.flatten).s2.2.1)], bv ((readH ls.flatten).s2.2.2.1), bv ((readH ls.flatten).s2.2.2.2.1), bv ((readH ls.flatten).s2.2.2.2.2), [.bool ((readH ls.flatten).s3.1)], [.int .i64 ((readH ls.flatten).s3.2.1)], bv ((readH ls.flatten).s3.2.2.1), bv ((readH ls.flatten).s3.2.2.2.1), bv ((readH ls.flatten).s3.2.2.2.2)] : List (List Value)).flatten.toArray from (by first | rfl | simp only [List.flatten_cons, List.flatten_nil, List.append_nil, List.append_assoc]))
  refine g_yes hE rfl rfl ?_
  refine s_move hE rfl rfl ?_; clear hE a; intro a hE
  refine g_yes hE rfl rfl ?_
  obtain ⟨cs26, hs26⟩ := own_rd (hM.get 2 rfl)
  refine s_toStr hE rfl Try.underlying55 Try.underlying5 Try.underlying9 hs26 (by intro X h; cases h; simp) rfl ?_; clear hE a; intro a hE
  refine g_yes hE rfl rfl ?_
  refine s_call hE rfl Try.call20 (hlay_c (readH ls.flatten) _ (readH_ok hl496) (by assumption) (readH_it hl496)) rfl ?_
  rintro e w9 ⟨v21, rfl, hN⟩
  refine ⟨_, rfl, hN.sta0 _, ?_⟩; clear hE a; intro a hE
  replace hM : Mem _ _ w9 [_, _, _, _, _, _] := hM.call0 hN ⟨rfl, trivial⟩; clear hN
  refine g_yes hE rfl rfl ?_
  obtain ⟨cq2, hq2⟩ := own_rd (hM.get 0 rfl)
  refine s_call hE rfl Try.call19 (hcut_c _ (layH (readH ls.flatten)) _ _ hq2 (layH_len (readH_ok hl496))) rfl ?_
  rintro e w10 ⟨v22, rfl, hN⟩
  refine ⟨_, rfl, hN.sta0 _, ?_⟩; clear hE a; intro a hE
  replace hM : Mem _ _ w10 [_, _, _, _, _, _, _] := hM.call0 hN ⟨rfl, trivial⟩; clear hN
  refine g_yes hE rfl rfl ?_
  obtain ⟨cq3, hq3⟩ := own_rd (hM.get 0 rfl)
  refine s_call hE rfl Try.call16 (hbytes_c _ (cutH (layH (readH ls.flatten))) _ _ hq3 (cutH_ok (layH_len (readH_ok hl496))) (by first | omega | assumption | (simp; done) | (simp; omega) | decide)) rfl ?_
  rintro e w11 ⟨v23, rfl, hN⟩
  refine ⟨_, rfl, hN.sta0 _, ?_⟩; clear hE a; intro a hE
  replace hM : Mem _ _ w11 [_, _, _, _, _, _, _, _] := hM.call0 hN ⟨rfl, trivial⟩; clear hN
  refine g_yes hE rfl rfl ?_
  obtain ⟨cs24, hs24⟩ := own_rd (hM.get 0 rfl)
  refine s_toStr hE rfl Try.underlying55 Try.underlying5 Try.underlying9 hs24 (by intro X h; cases h; simp) rfl ?_; clear hE a; intro a hE
  refine g_yes hE rfl rfl ?_
  refine s_bin hE rfl rfl bins_str.2 rfl ?_; clear hE a; intro a hE
  refine s_pickf hE rfl rfl rfl ?_; clear hE a; intro a hE
  refine q_nil ?_
  replace hE : Env a 34 [(0, _), (2, _), (3, _), (4, _), (5, _), (28, _)] := hE.sel [0, 2, 3, 4, 5, 28] rfl
  refine hK5 _ _ ?_
  replace hE := hE.cast 28 rfl (show _ = Value.bool false from (congrArg Value.bool (by first | rfl | (simp only [hs, hl8, hpd, hCF, hlg]; done) | (simp [hs, hl8, hpd, hCF, hlg]; done))))
  refine wp_cond_false (hE.eval rfl) ?_
  refine wp_skip ?_
  refine hK4 _ _ ?_
  refine wp_seq_k (fun K6 hK6 => ?_)
  refine wp_seq_k (fun K7 hK7 => ?_)
  refine wp_plain [true, false] rfl rfl ?_
  refine s_loadN hE rfl (hM.get 3 rfl) row39 rfl (by intro X h; cases h) rfl ?_; clear hE a; intro a hE
  replace hE := hE.cast 30 rfl (show _ = Value.agg ([[.int .i64 ((readH ls.flatten).m)], [.int .i64 ((readH ls.flatten).r)], [.bool ((readH ls.flatten).v0.1)], [.int .u64 (((readH ls.flatten).v0.2.1 : Nat) : Int)], bv ((readH ls.flatten).v0.2.2.1), bv ((readH ls.flatten).v0.2.2.2), [.bool ((readH ls.flatten).v1.1)], [.int .u64 (((readH ls.flatten).v1.2.1 : Nat) : Int)], bv ((readH ls.flatten).v1.2.2.1), bv ((readH ls.flatten).v1.2.2.2), [.bool ((readH ls.flatten).s0.1)], [.int .i64 ((readH ls.flatten).s0.2.1)], bv ((readH ls.flatten).s0.2.2.1), bv ((readH ls.flatten).s0.2.2.2.1), bv ((readH ls.flatten).s0.2.2.2.2), [.bool ((readH ls.flatten).s1.1)], [.int .i64 ((readH ls.flatten).s1.2.1)], bv ((readH ls.flatten).s1.2.2.1), bv ((readH ls.flatten).s1.2.2.2.1), bv ((readH ls.flatten).s1.2.2.2.2), [.bool ((readH ls.flatten).s2.1)], [.int .i64 ((readH ls.flatten).s2.2.1)], bv ((readH ls.flatten).s2.2.2.1), bv ((readH ls.flatten).s2.2.2.2.1), bv ((readH ls.flatten).s2.2.2.2.2), [.bool ((readH ls.flatten).s3.1)], [.int .i64 ((readH ls.flatten).s3.2.1)], bv ((readH ls.flatten).s3.2.2.1), bv ((readH ls.flatten).s3.2.2.2.1), bv ((readH ls.flatten).s3.2.2.2.2)] : List (List Value)).flatten.toArray from (by first | rfl | simp only [List.flatten_cons, List.flatten_nil, List.append_nil, List.append_assoc]))
  refine s_call hE rfl Try.call24 (long_c (readH ls.flatten) _ (readH_ok hl496) ) rfl ?_
  rintro e w12 ⟨rfl, hN⟩
  refine ⟨_, rfl, trivial, ?_⟩; clear hE a; intro a hE
  replace hM : Mem _ _ w12 [_, _, _, _, _, _, _, _] := hM.call0 hN trivial; clear hN
  refine q_nil ?_
  replace hE : Env a 34 [(0, _), (2, _), (3, _), (4, _), (5, _), (28, _), (31, _)] := hE.sel [0, 2, 3, 4, 5, 28, 31] rfl
  refine hK7 _ _ ?_
  replace hE := hE.cast 31 rfl (show _ = Value.bool false from (congrArg Value.bool (by first | rfl | exact hlg)))
  refine wp_cond_false (hE.eval rfl) ?_
  refine wp_skip ?_
  refine hK6 _ _ ?_
  refine wp_seq_k (fun K8 hK8 => ?_)
  refine wp_plain [true, false, true] rfl rfl ?_
  refine s_loadN hE rfl (hM.get 3 rfl) row39 rfl (by intro X h; cases h) rfl ?_; clear hE a; intro a hE
  replace hE := hE.cast 33 rfl (show _ = Value.agg ([[.int .i64 ((readH ls.flatten).m)], [.int .i64 ((readH ls.flatten).r)], [.bool ((readH ls.flatten).v0.1)], [.int .u64 (((readH ls.flatten).v0.2.1 : Nat) : Int)], bv ((readH ls.flatten).v0.2.2.1), bv ((readH ls.flatten).v0.2.2.2), [.bool ((readH ls.flatten).v1.1)], [.int .u64 (((readH ls.flatten).v1.2.1 : Nat) : Int)], bv ((readH ls.flatten).v1.2.2.1), bv ((readH ls.flatten).v1.2.2.2), [.bool ((readH ls.flatten).s0.1)], [.int .i64 ((readH ls.flatten).s0.2.1)], bv ((readH ls.flatten).s0.2.2.1), bv ((readH ls.flatten).s0.2.2.2.1), bv ((readH ls.flatten).s0.2.2.2.2), [.bool ((readH ls.flatten).s1.1)], [.int .i64 ((readH ls.flatten).s1.2.1)], bv ((readH ls.flatten).s1.2.2.1), bv ((readH ls.flatten).s1.2.2.2.1), bv ((readH ls.flatten).s1.2.2.2.2), [.bool ((readH ls.flatten).s2.1)], [.int .i64 ((readH ls.flatten).s2.2.1)], bv ((readH ls.flatten).s2.2.2.1), bv ((readH ls.flatten).s2.2.2.2.1), bv ((readH ls.flatten).s2.2.2.2.2), [.bool ((readH ls.flatten).s3.1)], [.int .i64 ((readH ls.flatten).s3.2.1)], bv ((readH ls.flatten).s3.2.2.1), bv ((readH ls.flatten).s3.2.2.2.1), bv ((readH ls.flatten).s3.2.2.2.2)] : List (List Value)).flatten.toArray from (by first | rfl | simp only [List.flatten_cons, List.flatten_nil, List.append_nil, List.append_assoc]))
  have hsl145_4 : ((readH ls.flatten).v0.2.2.1).length = 32 := (readH_ok hl496).v0.2.1
  have hsl145_5 : ((readH ls.flatten).v0.2.2.2).length = 32 := (readH_ok hl496).v0.2.2
  have hsl145_8 : ((readH ls.flatten).v1.2.2.1).length = 32 := (readH_ok hl496).v1.2.1
  have hsl145_9 : ((readH ls.flatten).v1.2.2.2).length = 32 := (readH_ok hl496).v1.2.2
  have hsl145_12 : ((readH ls.flatten).s0.2.2.1).length = 16 := (readH_ok hl496).s0.2.1
  have hsl145_13 : ((readH ls.flatten).s0.2.2.2.1).length = 32 := (readH_ok hl496).s0.2.2.1
  have hsl145_14 : ((readH ls.flatten).s0.2.2.2.2).length = 32 := (readH_ok hl496).s0.2.2.2
  have hsl145_17 : ((readH ls.flatten).s1.2.2.1).length = 16 := (readH_ok hl496).s1.2.1
  have hsl145_18 : ((readH ls.flatten).s1.2.2.2.1).length = 32 := (readH_ok hl496).s1.2.2.1
  have hsl145_19 : ((readH ls.flatten).s1.2.2.2.2).length = 32 := (readH_ok hl496).s1.2.2.2
  have hsl145_22 : ((readH ls.flatten).s2.2.2.1).length = 16 := (readH_ok hl496).s2.2.1
  have hsl145_23 : ((readH ls.flatten).s2.2.2.2.1).length = 32 := (readH_ok hl496).s2.2.2.1
  have hsl145_24 : ((readH ls.flatten).s2.2.2.2.2).length = 32 := (readH_ok hl496).s2.2.2.2
  have hsl145_27 : ((readH ls.flatten).s3.2.2.1).length = 16 := (readH_ok hl496).s3.2.1
  have hsl145_28 : ((readH ls.flatten).s3.2.2.2.1).length = 32 := (readH_ok hl496).s3.2.2.1
  have hsl145_29 : ((readH ls.flatten).s3.2.2.2.2).length = 32 := (readH_ok hl496).s3.2.2.2
  replace hM : Mem _ _ w12 [_, _, _, _, _, _, _, _] := hM.pick [6, 0, 1, 2, 3, 4, 5, 7] rfl
  refine s_storeSegs 0 30 (vss := [[.int .i64 ((readH ls.flatten).m)], [.int .i64 ((readH ls.flatten).r)], [.bool ((readH ls.flatten).v0.1)], [.int .u64 (((readH ls.flatten).v0.2.1 : Nat) : Int)], bv ((readH ls.flatten).v0.2.2.1), bv ((readH ls.flatten).v0.2.2.2), [.bool ((readH ls.flatten).v1.1)], [.int .u64 (((readH ls.flatten).v1.2.1 : Nat) : Int)], bv ((readH ls.flatten).v1.2.2.1), bv ((readH ls.flatten).v1.2.2.2), [.bool ((readH ls.flatten).s0.1)], [.int .i64 ((readH ls.flatten).s0.2.1)], bv ((readH ls.flatten).s0.2.2.1), bv ((readH ls.flatten).s0.2.2.2.1), bv ((readH ls.flatten).s0.2.2.2.2), [.bool ((readH ls.flatten).s1.1)], [.int .i64 ((readH ls.flatten).s1.2.1)], bv ((readH ls.flatten).s1.2.2.1), bv ((readH ls.flatten).s1.2.2.2.1), bv ((readH ls.flatten).s1.2.2.2.2), [.bool ((readH ls.flatten).s2.1)], [.int .i64 ((readH ls.flatten).s2.2.1)], bv ((readH ls.flatten).s2.2.2.1), bv ((readH ls.flatten).s2.2.2.2.1), bv ((readH ls.flatten).s2.2.2.2.2), [.bool ((readH ls.flatten).s3.1)], [.int .i64 ((readH ls.flatten).s3.2.1)], bv ((readH ls.flatten).s3.2.2.1), bv ((readH ls.flatten).s3.2.2.2.1), bv ((readH ls.flatten).s3.2.2.2.2)]) hE rfl rfl hM rfl sz39 (by simp only [List.take_succ_cons, List.take_zero, List.drop_zero, List.drop_succ_cons]; simp only [List.map_cons, List.map_nil, bv_length, List.length_cons, List.length_nil, List.length_replicate, hsl145_4, hsl145_5, hsl145_8, hsl145_9, hsl145_12, hsl145_13, hsl145_14, hsl145_17, hsl145_18, hsl145_19, hsl145_22, hsl145_23, hsl145_24, hsl145_27, hsl145_28, hsl145_29]) (by decide) rfl (one_fl ⟨one1 rfl, one1 rfl, one1 rfl, one1 rfl, bv_one _, bv_one _, one1 rfl, one1 rfl, bv_one _, bv_one _, one1 rfl, one1 rfl, bv_one _, bv_one _, bv_one _, one1 rfl, one1 rfl, bv_one _, bv_one _, bv_one _, one1 rfl, one1 rfl, bv_one _, bv_one _, bv_one _, one1 rfl, one1 rfl, bv_one _, bv_one _, bv_one _, trivial⟩) rfl (by intro X h; cases h) ?_; intro w13 hM'; clear hM; have hM := hM'; clear hM'
  try simp only [List.take_zero, List.take_succ_cons, List.drop_zero, List.drop_succ_cons, List.take_nil, List.drop_nil, List.nil_append, List.append_nil, List.cons_append] at hM
  refine s_assign hE rfl rfl ?_; clear hE a; intro a hE
  refine q_nil ?_
  replace hE : Env a 34 [(0, _), (2, _), (3, _), (4, _), (5, _), (28, _), (31, _)] := hE.sel [0, 2, 3, 4, 5, 28, 31] rfl
  refine hK8 _ _ ?_
  refine wp_ret ?_
  refine f_ret2 hE rfl (res_cellN rfl (hM.get 0 rfl) row39 rfl) rfl ?_
  exact ⟨(by first | rfl | (simp; done)), hM.pick [] rfl⟩
set_option maxRecDepth 20000 in
set_option maxHeartbeats 2000000 in
theorem hget_long (u : Value) (ls : List (List UInt8)) (lc : Nat) (w : World) (hr_ls : (rd u 64 ls.length lc (ls.flatMap bv)).holds w) (ho_ls : ∀ x, x ∈ ls → x.length = 64) (hg : getOkH ls = true) (hlg : longB (readH ls.flatten) = true) : Calls Try.prog 14 #[u] w fun e w' => e = .returned (.tuple #[.agg ([[.int .i64 zH.m], [.int .i64 zH.r], [.bool zH.v0.1], [.int .u64 ((zH.v0.2.1 : Nat) : Int)], bv zH.v0.2.2.1, bv zH.v0.2.2.2, [.bool zH.v1.1], [.int .u64 ((zH.v1.2.1 : Nat) : Int)], bv zH.v1.2.2.1, bv zH.v1.2.2.2, [.bool zH.s0.1], [.int .i64 zH.s0.2.1], bv zH.s0.2.2.1, bv zH.s0.2.2.2.1, bv zH.s0.2.2.2.2, [.bool zH.s1.1], [.int .i64 zH.s1.2.1], bv zH.s1.2.2.1, bv zH.s1.2.2.2.1, bv zH.s1.2.2.2.2, [.bool zH.s2.1], [.int .i64 zH.s2.2.1], bv zH.s2.2.2.1, bv zH.s2.2.2.2.1, bv zH.s2.2.2.2.2, [.bool zH.s3.1], [.int .i64 zH.s3.2.1], bv zH.s3.2.2.1, bv zH.s3.2.2.2.1, bv zH.s3.2.2.2.2] : List (List Value)).flatten.toArray, .int .i64 3]) ∧ Mem w [] w' [] := by
  obtain ⟨hl8, hs, hpd⟩ := getOkH_facts hg
  have hfl := flats_len ho_ls
  have hl496 : 496 ≤ ls.flatten.length := by omega
  have hLY := layH_len (readH_ok hl496)
  have hCF := cutH_flat hLY
  have hM : Mem w [] w [rd u 64 ls.length lc (ls.flatMap bv)] := Mem.startR w (fun g hg => by
    simp only [List.mem_cons, List.not_mem_nil, or_false] at hg
    rcases hg with rfl
    · exact ⟨hr_ls, rfl⟩)
  refine f_enter 34 Try.func14 rfl rfl rfl ?_
  intro a hE
  replace hE : Env a 34 [(0, _)] := hE
  refine wp_seq_k (fun K1 hK1 => ?_)
  refine wp_plain [false, true] rfl rfl ?_
  refine s_alloc [1, 1, 1, 1, 32, 32, 1, 1, 32, 32, 1, 1, 16, 32, 32, 1, 1, 16, 32, 32, 1, 1, 16, 32, 32, 1, 1, 16, 32, 32] hE hM zeroL39 rfl rfl ?_; clear hE a; intro a b2 w1 hE hM'
  clear hM; have hM := hM'; clear hM'
  refine s_assign hE rfl rfl ?_; clear hE a; intro a hE
  refine q_nil ?_
  refine hK1 _ _ ?_
  refine wp_seq_k (fun K2 hK2 => ?_)
  refine wp_plain [true, false, true] rfl rfl ?_
  refine s_move hE rfl rfl ?_; clear hE a; intro a hE
  refine s_call hE rfl Try.call16 (hbytes_c _ ls _ _ (hM.get 1 rfl) ho_ls (by first | omega | assumption | (simp; done) | (simp; omega) | decide)) rfl ?_
  rintro e w2 ⟨v7, rfl, hN⟩
  refine ⟨_, rfl, trivial, ?_⟩; clear hE a; intro a hE
  replace hM : Mem _ _ w2 [_, _, _] := hM.call0 hN ⟨rfl, trivial⟩; clear hN
  refine s_assign hE rfl rfl ?_; clear hE a; intro a hE
  refine q_nil ?_
  replace hE : Env a 34 [(0, _), (2, _), (3, _), (4, _)] := hE.sel [0, 2, 3, 4] rfl
  refine hK2 _ _ ?_
  refine wp_seq_k (fun K3 hK3 => ?_)
  refine wp_plain [true, false, false, false, false] rfl rfl ?_
  refine s_move hE rfl rfl ?_; clear hE a; intro a hE
  obtain ⟨cq1, hq1⟩ := own_rd (hM.get 0 rfl)
  refine s_call hE rfl Try.call28 (open_c ls.flatten _ _ _ hq1 (by first | omega | (simp; done) | (simp; omega))) rfl ?_
  rintro e w3 ⟨tb9, bb9, rfl, hbb9, hN⟩
  refine ⟨_, rfl, trivial, ?_⟩; clear hE a; intro a hE
  replace hM : Mem _ _ w3 [_, _, _, _] := hM.callN hN (fun e he x hx => by rw [List.mem_singleton.1 he] at hx; exact hbb9 x hx); clear hN
  refine s_call hE rfl Try.call27 (hread_c tb9 bb9 ls.flatten _ (hM.get 0 rfl) (by omega) (by omega)) rfl ?_
  rintro e w4 ⟨rfl, hN⟩
  refine ⟨_, rfl, trivial, ?_⟩; clear hE a; intro a hE
  replace hM : Mem _ _ w4 [_, _, _, _] := hM.call1 hN (fun f hf x hx => by rw [List.mem_singleton.1 hf] at hx; exact .inl hx); clear hN
  refine s_alloc [1, 1, 1, 1, 32, 32, 1, 1, 32, 32, 1, 1, 16, 32, 32, 1, 1, 16, 32, 32, 1, 1, 16, 32, 32, 1, 1, 16, 32, 32] hE hM zeroL39 rfl rfl ?_; clear hE a; intro a b5 w5 hE hM'
  clear hM; have hM := hM'; clear hM'
  have hsl44_4 : ((readH ls.flatten).v0.2.2.1).length = 32 := (readH_ok hl496).v0.2.1
  have hsl44_5 : ((readH ls.flatten).v0.2.2.2).length = 32 := (readH_ok hl496).v0.2.2
  have hsl44_8 : ((readH ls.flatten).v1.2.2.1).length = 32 := (readH_ok hl496).v1.2.1
  have hsl44_9 : ((readH ls.flatten).v1.2.2.2).length = 32 := (readH_ok hl496).v1.2.2
  have hsl44_12 : ((readH ls.flatten).s0.2.2.1).length = 16 := (readH_ok hl496).s0.2.1
  have hsl44_13 : ((readH ls.flatten).s0.2.2.2.1).length = 32 := (readH_ok hl496).s0.2.2.1
  have hsl44_14 : ((readH ls.flatten).s0.2.2.2.2).length = 32 := (readH_ok hl496).s0.2.2.2
  have hsl44_17 : ((readH ls.flatten).s1.2.2.1).length = 16 := (readH_ok hl496).s1.2.1
  have hsl44_18 : ((readH ls.flatten).s1.2.2.2.1).length = 32 := (readH_ok hl496).s1.2.2.1
  have hsl44_19 : ((readH ls.flatten).s1.2.2.2.2).length = 32 := (readH_ok hl496).s1.2.2.2
  have hsl44_22 : ((readH ls.flatten).s2.2.2.1).length = 16 := (readH_ok hl496).s2.2.1
  have hsl44_23 : ((readH ls.flatten).s2.2.2.2.1).length = 32 := (readH_ok hl496).s2.2.2.1
  have hsl44_24 : ((readH ls.flatten).s2.2.2.2.2).length = 32 := (readH_ok hl496).s2.2.2.2
  have hsl44_27 : ((readH ls.flatten).s3.2.2.1).length = 16 := (readH_ok hl496).s3.2.1
  have hsl44_28 : ((readH ls.flatten).s3.2.2.2.1).length = 32 := (readH_ok hl496).s3.2.2.1
  have hsl44_29 : ((readH ls.flatten).s3.2.2.2.2).length = 32 := (readH_ok hl496).s3.2.2.2
  refine s_storeSegs 0 30 (vss := [[.int .i64 ((readH ls.flatten).m)], [.int .i64 ((readH ls.flatten).r)], [.bool ((readH ls.flatten).v0.1)], [.int .u64 (((readH ls.flatten).v0.2.1 : Nat) : Int)], bv ((readH ls.flatten).v0.2.2.1), bv ((readH ls.flatten).v0.2.2.2), [.bool ((readH ls.flatten).v1.1)], [.int .u64 (((readH ls.flatten).v1.2.1 : Nat) : Int)], bv ((readH ls.flatten).v1.2.2.1), bv ((readH ls.flatten).v1.2.2.2), [.bool ((readH ls.flatten).s0.1)], [.int .i64 ((readH ls.flatten).s0.2.1)], bv ((readH ls.flatten).s0.2.2.1), bv ((readH ls.flatten).s0.2.2.2.1), bv ((readH ls.flatten).s0.2.2.2.2), [.bool ((readH ls.flatten).s1.1)], [.int .i64 ((readH ls.flatten).s1.2.1)], bv ((readH ls.flatten).s1.2.2.1), bv ((readH ls.flatten).s1.2.2.2.1), bv ((readH ls.flatten).s1.2.2.2.2), [.bool ((readH ls.flatten).s2.1)], [.int .i64 ((readH ls.flatten).s2.2.1)], bv ((readH ls.flatten).s2.2.2.1), bv ((readH ls.flatten).s2.2.2.2.1), bv ((readH ls.flatten).s2.2.2.2.2), [.bool ((readH ls.flatten).s3.1)], [.int .i64 ((readH ls.flatten).s3.2.1)], bv ((readH ls.flatten).s3.2.2.1), bv ((readH ls.flatten).s3.2.2.2.1), bv ((readH ls.flatten).s3.2.2.2.2)]) hE rfl rfl hM rfl sz39 (by simp only [List.take_succ_cons, List.take_zero, List.drop_zero, List.drop_succ_cons]; simp only [List.map_cons, List.map_nil, bv_length, List.length_cons, List.length_nil, List.length_replicate, hsl44_4, hsl44_5, hsl44_8, hsl44_9, hsl44_12, hsl44_13, hsl44_14, hsl44_17, hsl44_18, hsl44_19, hsl44_22, hsl44_23, hsl44_24, hsl44_27, hsl44_28, hsl44_29]) (by decide) rfl (one_fl ⟨one1 rfl, one1 rfl, one1 rfl, one1 rfl, bv_one _, bv_one _, one1 rfl, one1 rfl, bv_one _, bv_one _, one1 rfl, one1 rfl, bv_one _, bv_one _, bv_one _, one1 rfl, one1 rfl, bv_one _, bv_one _, bv_one _, one1 rfl, one1 rfl, bv_one _, bv_one _, bv_one _, one1 rfl, one1 rfl, bv_one _, bv_one _, bv_one _, trivial⟩) rfl (by intro X h; cases h) ?_; intro w6 hM'; clear hM; have hM := hM'; clear hM'
  try simp only [List.take_zero, List.take_succ_cons, List.drop_zero, List.drop_succ_cons, List.take_nil, List.drop_nil, List.nil_append, List.append_nil, List.cons_append] at hM
  refine q_nil ?_
  replace hE : Env a 34 [(0, _), (2, _), (3, _), (4, _), (5, _)] := hE.sel [0, 2, 3, 4, 5] rfl
  refine hK3 _ _ ?_
  refine wp_seq_k (fun K4 hK4 => ?_)
  refine wp_seq_k (fun K5 hK5 => ?_)
  refine wp_drawnM hM (by kernel_rfl) (fun _ => False) [(0, true), (1, true), (2, true), (3, true), (4, true), (5, false), (6, true), (7, true), (8, true), (9, true), (14, true), (15, true), (10, false), (11, false), (12, false), (13, true), (16, true), (17, true)] [(5, [(6, 5), (7, 6), (8, 5), (9, 8), (14, 8), (15, 8), (10, 8), (11, 8), (12, 8), (13, 8), (16, 8), (17, 8)]), (10, [(11, 10), (12, 11), (13, 12), (16, 13), (17, 16)]), (11, [(12, 11), (13, 12), (16, 13), (17, 16)]), (12, [(13, 12), (16, 13), (17, 16)])] (by kernel_rfl) rfl ?_
  intro w7 hM' hww7; clear hM; have hM := hM'; clear hM'
  refine s_move hE rfl rfl ?_; clear hE a; intro a hE
  refine s_len hE rfl Try.underlying40 (rd_slice (hM.get 4 rfl)) rfl ?_; clear hE a; intro a hE
  refine s_bin hE rfl rfl bin_neq rfl ?_; clear hE a; intro a hE
  refine s_move hE rfl rfl ?_; clear hE a; intro a hE
  replace hE := hE.cast 14 rfl (show _ = Value.bool false from (congrArg Value.bool (by first | rfl | (simp only [hs, hl8, hpd, hCF, hlg]; done) | (simp [hs, hl8, hpd, hCF, hlg]; done))))
  refine g_yes hE rfl rfl ?_
  refine s_loadN hE rfl (hM.get 0 rfl) row39 rfl (by intro X h; cases h; simp) rfl ?_; clear hE a; intro a hE
  replace hE := hE.cast 15 rfl (show _ = Value.agg ([[.int .i64 ((readH ls.flatten).m)], [.int .i64 ((readH ls.flatten).r)], [.bool ((readH ls.flatten).v0.1)], [.int .u64 (((readH ls.flatten).v0.2.1 : Nat) : Int)], bv ((readH ls.flatten).v0.2.2.1), bv ((readH ls.flatten).v0.2.2.2), [.bool ((readH ls.flatten).v1.1)], [.int .u64 (((readH ls.flatten).v1.2.1 : Nat) : Int)], bv ((readH ls.flatten).v1.2.2.1), bv ((readH ls.flatten).v1.2.2.2), [.bool ((readH ls.flatten).s0.1)], [.int .i64 ((readH ls.flatten).s0.2.1)], bv ((readH ls.flatten).s0.2.2.1), bv ((readH ls.flatten).s0.2.2.2.1), bv ((readH ls.flatten).s0.2.2.2.2), [.bool ((readH ls.flatten).s1.1)], [.int .i64 ((readH ls.flatten).s1.2.1)], bv ((readH ls.flatten).s1.2.2.1), bv ((readH ls.flatten).s1.2.2.2.1), bv ((readH ls.flatten).s1.2.2.2.2), [.bool ((readH ls.flatten).s2.1)], [.int .i64 ((readH ls.flatten).s2.2.1)], bv ((readH ls.flatten).s2.2.2.1), bv ((readH ls.flatten).s2.2.2.2.1), bv ((readH ls.flatten).s2.2.2.2.2), [.bool ((readH ls.flatten).s3.1)], [.int .i64 ((readH ls.flatten).s3.2.1)], bv ((readH ls.flatten).s3.2.2.1), bv ((readH ls.flatten).s3.2.2.2.1), bv ((readH ls.flatten).s3.2.2.2.2)] : List (List Value)).flatten.toArray from (by first | rfl | simp only [List.flatten_cons, List.flatten_nil, List.append_nil, List.append_assoc]))
  refine g_yes hE rfl rfl ?_
  refine s_call hE rfl Try.call23 (shaped_c (readH ls.flatten) _ (readH_ok hl496) ) rfl ?_
  rintro e w8 ⟨rfl, hN⟩
  refine ⟨_, rfl, hN.sta0 _, ?_⟩; clear hE a; intro a hE
  replace hM : Mem _ _ w8 [_, _, _, _, _] := hM.call0 hN trivial; clear hN
  refine g_yes hE rfl rfl ?_
  refine s_not hE rfl rfl ?_; clear hE a; intro a hE
  refine s_pickf hE rfl rfl rfl ?_; clear hE a; intro a hE
  refine s_move hE rfl rfl ?_; clear hE a; intro a hE
  replace hE := hE.cast 19 rfl (show _ = Value.bool false from (congrArg Value.bool (by first | rfl | (simp only [hs, hl8, hpd, hCF, hlg]; done) | (simp [hs, hl8, hpd, hCF, hlg]; done))))
  refine g_yes hE rfl rfl ?_
  refine s_loadN hE rfl (hM.get 0 rfl) row39 rfl (by intro X h; cases h; simp) rfl ?_; clear hE a; intro a hE
  replace hE := hE.cast 20 rfl (show _ = Value.agg ([[.int .i64 ((readH ls.flatten).m)], [.int .i64 ((readH ls.flatten).r)], [.bool ((readH ls.flatten).v0.1)], [.int .u64 (((readH ls.flatten).v0.2.1 : Nat) : Int)], bv ((readH ls.flatten).v0.2.2.1), bv ((readH ls.flatten).v0.2.2.2), [.bool ((readH ls.flatten).v1.1)], [.int .u64 (((readH ls.flatten).v1.2.1 : Nat) : Int)], bv ((readH ls.flatten).v1.2.2.1), bv ((readH ls.flatten).v1.2.2.2), [.bool ((readH ls.flatten).s0.1)], [.int .i64 ((readH ls.flatten).s0.2.1)], bv ((readH ls.flatten).s0.2.2.1), bv ((readH ls.flatten).s0.2.2.2.1), bv ((readH ls.flatten).s0.2.2.2.2), [.bool ((readH ls.flatten).s1.1)], [.int .i64 ((readH ls.flatten).s1.2.1)], bv ((readH ls.flatten).s1.2.2.1), bv ((readH ls.flatten).s1.2.2.2.1), bv ((readH ls.flatten).s1.2.2.2.2), [.bool ((readH ls.flatten).s2.1)], [.int .i64 ((readH ls.flatten).s2.2.1)], bv ((readH ls.flatten).s2.2.2.1), bv ((readH ls.flatten).s2.2.2.2.1), bv ((readH ls.flatten).s2.2.2.2.2), [.bool ((readH ls.flatten).s3.1)], [.int .i64 ((readH ls.flatten).s3.2.1)], bv ((readH ls.flatten).s3.2.2.1), bv ((readH ls.flatten).s3.2.2.2.1), bv ((readH ls.flatten).s3.2.2.2.2)] : List (List Value)).flatten.toArray from (by first | rfl | simp only [List.flatten_cons, List.flatten_nil, List.append_nil, List.append_assoc]))
  refine g_yes hE rfl rfl ?_
  refine s_move hE rfl rfl ?_; clear hE a; intro a hE
  refine g_yes hE rfl rfl ?_
  obtain ⟨cs26, hs26⟩ := own_rd (hM.get 2 rfl)
  refine s_toStr hE rfl Try.underlying55 Try.underlying5 Try.underlying9 hs26 (by intro X h; cases h; simp) rfl ?_; clear hE a; intro a hE
  refine g_yes hE rfl rfl ?_
  refine s_call hE rfl Try.call20 (hlay_c (readH ls.flatten) _ (readH_ok hl496) (by assumption) (readH_it hl496)) rfl ?_
  rintro e w9 ⟨v21, rfl, hN⟩
  refine ⟨_, rfl, hN.sta0 _, ?_⟩; clear hE a; intro a hE
  replace hM : Mem _ _ w9 [_, _, _, _, _, _] := hM.call0 hN ⟨rfl, trivial⟩; clear hN
  refine g_yes hE rfl rfl ?_
  obtain ⟨cq2, hq2⟩ := own_rd (hM.get 0 rfl)
  refine s_call hE rfl Try.call19 (hcut_c _ (layH (readH ls.flatten)) _ _ hq2 (layH_len (readH_ok hl496))) rfl ?_
  rintro e w10 ⟨v22, rfl, hN⟩
  refine ⟨_, rfl, hN.sta0 _, ?_⟩; clear hE a; intro a hE
  replace hM : Mem _ _ w10 [_, _, _, _, _, _, _] := hM.call0 hN ⟨rfl, trivial⟩; clear hN
  refine g_yes hE rfl rfl ?_
  obtain ⟨cq3, hq3⟩ := own_rd (hM.get 0 rfl)
  refine s_call hE rfl Try.call16 (hbytes_c _ (cutH (layH (readH ls.flatten))) _ _ hq3 (cutH_ok (layH_len (readH_ok hl496))) (by first | omega | assumption | (simp; done) | (simp; omega) | decide)) rfl ?_
  rintro e w11 ⟨v23, rfl, hN⟩
  refine ⟨_, rfl, hN.sta0 _, ?_⟩; clear hE a; intro a hE
  replace hM : Mem _ _ w11 [_, _, _, _, _, _, _, _] := hM.call0 hN ⟨rfl, trivial⟩; clear hN
  refine g_yes hE rfl rfl ?_
  obtain ⟨cs24, hs24⟩ := own_rd (hM.get 0 rfl)
  refine s_toStr hE rfl Try.underlying55 Try.underlying5 Try.underlying9 hs24 (by intro X h; cases h; simp) rfl ?_; clear hE a; intro a hE
  refine g_yes hE rfl rfl ?_
  refine s_bin hE rfl rfl bins_str.2 rfl ?_; clear hE a; intro a hE
  refine s_pickf hE rfl rfl rfl ?_; clear hE a; intro a hE
  refine q_nil ?_
  replace hE : Env a 34 [(0, _), (2, _), (3, _), (4, _), (5, _), (28, _)] := hE.sel [0, 2, 3, 4, 5, 28] rfl
  refine hK5 _ _ ?_
  replace hE := hE.cast 28 rfl (show _ = Value.bool false from (congrArg Value.bool (by first | rfl | (simp only [hs, hl8, hpd, hCF, hlg]; done) | (simp [hs, hl8, hpd, hCF, hlg]; done))))
  refine wp_cond_false (hE.eval rfl) ?_
  refine wp_skip ?_
  refine hK4 _ _ ?_
  refine wp_seq_k (fun K6 hK6 => ?_)
  refine wp_seq_k (fun K7 hK7 => ?_)
  refine wp_plain [true, false] rfl rfl ?_
  refine s_loadN hE rfl (hM.get 3 rfl) row39 rfl (by intro X h; cases h) rfl ?_; clear hE a; intro a hE
  replace hE := hE.cast 30 rfl (show _ = Value.agg ([[.int .i64 ((readH ls.flatten).m)], [.int .i64 ((readH ls.flatten).r)], [.bool ((readH ls.flatten).v0.1)], [.int .u64 (((readH ls.flatten).v0.2.1 : Nat) : Int)], bv ((readH ls.flatten).v0.2.2.1), bv ((readH ls.flatten).v0.2.2.2), [.bool ((readH ls.flatten).v1.1)], [.int .u64 (((readH ls.flatten).v1.2.1 : Nat) : Int)], bv ((readH ls.flatten).v1.2.2.1), bv ((readH ls.flatten).v1.2.2.2), [.bool ((readH ls.flatten).s0.1)], [.int .i64 ((readH ls.flatten).s0.2.1)], bv ((readH ls.flatten).s0.2.2.1), bv ((readH ls.flatten).s0.2.2.2.1), bv ((readH ls.flatten).s0.2.2.2.2), [.bool ((readH ls.flatten).s1.1)], [.int .i64 ((readH ls.flatten).s1.2.1)], bv ((readH ls.flatten).s1.2.2.1), bv ((readH ls.flatten).s1.2.2.2.1), bv ((readH ls.flatten).s1.2.2.2.2), [.bool ((readH ls.flatten).s2.1)], [.int .i64 ((readH ls.flatten).s2.2.1)], bv ((readH ls.flatten).s2.2.2.1), bv ((readH ls.flatten).s2.2.2.2.1), bv ((readH ls.flatten).s2.2.2.2.2), [.bool ((readH ls.flatten).s3.1)], [.int .i64 ((readH ls.flatten).s3.2.1)], bv ((readH ls.flatten).s3.2.2.1), bv ((readH ls.flatten).s3.2.2.2.1), bv ((readH ls.flatten).s3.2.2.2.2)] : List (List Value)).flatten.toArray from (by first | rfl | simp only [List.flatten_cons, List.flatten_nil, List.append_nil, List.append_assoc]))
  refine s_call hE rfl Try.call24 (long_c (readH ls.flatten) _ (readH_ok hl496) ) rfl ?_
  rintro e w12 ⟨rfl, hN⟩
  refine ⟨_, rfl, trivial, ?_⟩; clear hE a; intro a hE
  replace hM : Mem _ _ w12 [_, _, _, _, _, _, _, _] := hM.call0 hN trivial; clear hN
  refine q_nil ?_
  replace hE : Env a 34 [(0, _), (2, _), (3, _), (4, _), (5, _), (28, _), (31, _)] := hE.sel [0, 2, 3, 4, 5, 28, 31] rfl
  refine hK7 _ _ ?_
  replace hE := hE.cast 31 rfl (show _ = Value.bool true from (congrArg Value.bool (by first | rfl | exact hlg)))
  refine wp_cond_true (hE.eval rfl) ?_
  refine wp_seq_k (fun K8 hK8 => ?_)
  refine wp_plain [true, false, true] rfl rfl ?_
  refine s_buildS [] hE rfl zero39 (by kernel_rfl) fpl39 (by first | (simp [PartsOk, Value.cells]; done) | (simp [PartsOk, Value.cells]; omega)) rfl ?_; clear hE a; intro a hE
  replace hE := hE.cast 32 rfl (show _ = Value.agg ([[.int .i64 0], [.int .i64 0], [.bool false], [.int .u64 0], bv (List.replicate 32 (0 : UInt8)), bv (List.replicate 32 (0 : UInt8)), [.bool false], [.int .u64 0], bv (List.replicate 32 (0 : UInt8)), bv (List.replicate 32 (0 : UInt8)), [.bool false], [.int .i64 0], bv (List.replicate 16 (0 : UInt8)), bv (List.replicate 32 (0 : UInt8)), bv (List.replicate 32 (0 : UInt8)), [.bool false], [.int .i64 0], bv (List.replicate 16 (0 : UInt8)), bv (List.replicate 32 (0 : UInt8)), bv (List.replicate 32 (0 : UInt8)), [.bool false], [.int .i64 0], bv (List.replicate 16 (0 : UInt8)), bv (List.replicate 32 (0 : UInt8)), bv (List.replicate 32 (0 : UInt8)), [.bool false], [.int .i64 0], bv (List.replicate 16 (0 : UInt8)), bv (List.replicate 32 (0 : UInt8)), bv (List.replicate 32 (0 : UInt8))] : List (List Value)).flatten.toArray from (by first | rfl | simp [setAll] | (simp only [setAll, List.set_cons_zero, List.set_cons_succ, List.flatten_cons, List.flatten_nil, List.append_nil, List.append_assoc, List.replicate_succ, List.replicate_zero])))
  have hsl143_4 : (List.replicate 32 (0 : UInt8)).length = 32 := List.length_replicate
  have hsl143_5 : (List.replicate 32 (0 : UInt8)).length = 32 := List.length_replicate
  have hsl143_8 : (List.replicate 32 (0 : UInt8)).length = 32 := List.length_replicate
  have hsl143_9 : (List.replicate 32 (0 : UInt8)).length = 32 := List.length_replicate
  have hsl143_12 : (List.replicate 16 (0 : UInt8)).length = 16 := List.length_replicate
  have hsl143_13 : (List.replicate 32 (0 : UInt8)).length = 32 := List.length_replicate
  have hsl143_14 : (List.replicate 32 (0 : UInt8)).length = 32 := List.length_replicate
  have hsl143_17 : (List.replicate 16 (0 : UInt8)).length = 16 := List.length_replicate
  have hsl143_18 : (List.replicate 32 (0 : UInt8)).length = 32 := List.length_replicate
  have hsl143_19 : (List.replicate 32 (0 : UInt8)).length = 32 := List.length_replicate
  have hsl143_22 : (List.replicate 16 (0 : UInt8)).length = 16 := List.length_replicate
  have hsl143_23 : (List.replicate 32 (0 : UInt8)).length = 32 := List.length_replicate
  have hsl143_24 : (List.replicate 32 (0 : UInt8)).length = 32 := List.length_replicate
  have hsl143_27 : (List.replicate 16 (0 : UInt8)).length = 16 := List.length_replicate
  have hsl143_28 : (List.replicate 32 (0 : UInt8)).length = 32 := List.length_replicate
  have hsl143_29 : (List.replicate 32 (0 : UInt8)).length = 32 := List.length_replicate
  replace hM : Mem _ _ w12 [_, _, _, _, _, _, _, _] := hM.pick [6, 0, 1, 2, 3, 4, 5, 7] rfl
  refine s_storeSegs 0 30 (vss := [[.int .i64 0], [.int .i64 0], [.bool false], [.int .u64 0], bv (List.replicate 32 (0 : UInt8)), bv (List.replicate 32 (0 : UInt8)), [.bool false], [.int .u64 0], bv (List.replicate 32 (0 : UInt8)), bv (List.replicate 32 (0 : UInt8)), [.bool false], [.int .i64 0], bv (List.replicate 16 (0 : UInt8)), bv (List.replicate 32 (0 : UInt8)), bv (List.replicate 32 (0 : UInt8)), [.bool false], [.int .i64 0], bv (List.replicate 16 (0 : UInt8)), bv (List.replicate 32 (0 : UInt8)), bv (List.replicate 32 (0 : UInt8)), [.bool false], [.int .i64 0], bv (List.replicate 16 (0 : UInt8)), bv (List.replicate 32 (0 : UInt8)), bv (List.replicate 32 (0 : UInt8)), [.bool false], [.int .i64 0], bv (List.replicate 16 (0 : UInt8)), bv (List.replicate 32 (0 : UInt8)), bv (List.replicate 32 (0 : UInt8))]) hE rfl rfl hM rfl sz39 (by simp only [List.take_succ_cons, List.take_zero, List.drop_zero, List.drop_succ_cons]; simp only [List.map_cons, List.map_nil, bv_length, List.length_cons, List.length_nil, List.length_replicate, hsl143_4, hsl143_5, hsl143_8, hsl143_9, hsl143_12, hsl143_13, hsl143_14, hsl143_17, hsl143_18, hsl143_19, hsl143_22, hsl143_23, hsl143_24, hsl143_27, hsl143_28, hsl143_29]) (by decide) rfl (one_fl ⟨one1 rfl, one1 rfl, one1 rfl, one1 rfl, bv_one _, bv_one _, one1 rfl, one1 rfl, bv_one _, bv_one _, one1 rfl, one1 rfl, bv_one _, bv_one _, bv_one _, one1 rfl, one1 rfl, bv_one _, bv_one _, bv_one _, one1 rfl, one1 rfl, bv_one _, bv_one _, bv_one _, one1 rfl, one1 rfl, bv_one _, bv_one _, bv_one _, trivial⟩) rfl (by intro X h; cases h) ?_; intro w13 hM'; clear hM; have hM := hM'; clear hM'
  try simp only [List.take_zero, List.take_succ_cons, List.drop_zero, List.drop_succ_cons, List.take_nil, List.drop_nil, List.nil_append, List.append_nil, List.cons_append] at hM
  refine s_assign hE rfl rfl ?_; clear hE a; intro a hE
  refine q_nil ?_
  replace hE : Env a 34 [(0, _), (2, _), (3, _), (4, _), (5, _), (28, _), (31, _)] := hE.sel [0, 2, 3, 4, 5, 28, 31] rfl
  refine hK8 _ _ ?_
  refine wp_ret ?_
  refine q_then_r ?_
  refine f_ret2 hE rfl (res_cellN rfl (hM.get 0 rfl) row39 rfl) rfl ?_
  exact ⟨(by first | rfl | (simp [zH, zV, zS]; done)), hM.pick [] rfl⟩
set_option maxRecDepth 20000 in
set_option maxHeartbeats 2000000 in
theorem hget_bad (u : Value) (ls : List (List UInt8)) (lc : Nat) (w : World) (hr_ls : (rd u 64 ls.length lc (ls.flatMap bv)).holds w) (ho_ls : ∀ x, x ∈ ls → x.length = 64) (hg : getOkH ls = false) (hlo : 8 ≤ ls.length) (hhi : ls.length ≤ 100) : Calls Try.prog 14 #[u] w fun e w' => e = .returned (.tuple #[.agg ([[.int .i64 zH.m], [.int .i64 zH.r], [.bool zH.v0.1], [.int .u64 ((zH.v0.2.1 : Nat) : Int)], bv zH.v0.2.2.1, bv zH.v0.2.2.2, [.bool zH.v1.1], [.int .u64 ((zH.v1.2.1 : Nat) : Int)], bv zH.v1.2.2.1, bv zH.v1.2.2.2, [.bool zH.s0.1], [.int .i64 zH.s0.2.1], bv zH.s0.2.2.1, bv zH.s0.2.2.2.1, bv zH.s0.2.2.2.2, [.bool zH.s1.1], [.int .i64 zH.s1.2.1], bv zH.s1.2.2.1, bv zH.s1.2.2.2.1, bv zH.s1.2.2.2.2, [.bool zH.s2.1], [.int .i64 zH.s2.2.1], bv zH.s2.2.2.1, bv zH.s2.2.2.2.1, bv zH.s2.2.2.2.2, [.bool zH.s3.1], [.int .i64 zH.s3.2.1], bv zH.s3.2.2.1, bv zH.s3.2.2.2.1, bv zH.s3.2.2.2.2] : List (List Value)).flatten.toArray, .int .i64 4]) ∧ Mem w [] w' [] := by
  have hfl := flats_len ho_ls
  have hl496 : 496 ≤ ls.flatten.length := by omega
  have hLY := layH_len (readH_ok hl496)
  have hCF := cutH_flat hLY
  have hM : Mem w [] w [rd u 64 ls.length lc (ls.flatMap bv)] := Mem.startR w (fun g hg => by
    simp only [List.mem_cons, List.not_mem_nil, or_false] at hg
    rcases hg with rfl
    · exact ⟨hr_ls, rfl⟩)
  refine f_enter 34 Try.func14 rfl rfl rfl ?_
  intro a hE
  replace hE : Env a 34 [(0, _)] := hE
  refine wp_seq_k (fun K1 hK1 => ?_)
  refine wp_plain [false, true] rfl rfl ?_
  refine s_alloc [1, 1, 1, 1, 32, 32, 1, 1, 32, 32, 1, 1, 16, 32, 32, 1, 1, 16, 32, 32, 1, 1, 16, 32, 32, 1, 1, 16, 32, 32] hE hM zeroL39 rfl rfl ?_; clear hE a; intro a b2 w1 hE hM'
  clear hM; have hM := hM'; clear hM'
  refine s_assign hE rfl rfl ?_; clear hE a; intro a hE
  refine q_nil ?_
  refine hK1 _ _ ?_
  refine wp_seq_k (fun K2 hK2 => ?_)
  refine wp_plain [true, false, true] rfl rfl ?_
  refine s_move hE rfl rfl ?_; clear hE a; intro a hE
  refine s_call hE rfl Try.call16 (hbytes_c _ ls _ _ (hM.get 1 rfl) ho_ls (by first | omega | assumption | (simp; done) | (simp; omega) | decide)) rfl ?_
  rintro e w2 ⟨v7, rfl, hN⟩
  refine ⟨_, rfl, trivial, ?_⟩; clear hE a; intro a hE
  replace hM : Mem _ _ w2 [_, _, _] := hM.call0 hN ⟨rfl, trivial⟩; clear hN
  refine s_assign hE rfl rfl ?_; clear hE a; intro a hE
  refine q_nil ?_
  replace hE : Env a 34 [(0, _), (2, _), (3, _), (4, _)] := hE.sel [0, 2, 3, 4] rfl
  refine hK2 _ _ ?_
  refine wp_seq_k (fun K3 hK3 => ?_)
  refine wp_plain [true, false, false, false, false] rfl rfl ?_
  refine s_move hE rfl rfl ?_; clear hE a; intro a hE
  obtain ⟨cq1, hq1⟩ := own_rd (hM.get 0 rfl)
  refine s_call hE rfl Try.call28 (open_c ls.flatten _ _ _ hq1 (by first | omega | (simp; done) | (simp; omega))) rfl ?_
  rintro e w3 ⟨tb9, bb9, rfl, hbb9, hN⟩
  refine ⟨_, rfl, trivial, ?_⟩; clear hE a; intro a hE
  replace hM : Mem _ _ w3 [_, _, _, _] := hM.callN hN (fun e he x hx => by rw [List.mem_singleton.1 he] at hx; exact hbb9 x hx); clear hN
  refine s_call hE rfl Try.call27 (hread_c tb9 bb9 ls.flatten _ (hM.get 0 rfl) (by omega) (by omega)) rfl ?_
  rintro e w4 ⟨rfl, hN⟩
  refine ⟨_, rfl, trivial, ?_⟩; clear hE a; intro a hE
  replace hM : Mem _ _ w4 [_, _, _, _] := hM.call1 hN (fun f hf x hx => by rw [List.mem_singleton.1 hf] at hx; exact .inl hx); clear hN
  refine s_alloc [1, 1, 1, 1, 32, 32, 1, 1, 32, 32, 1, 1, 16, 32, 32, 1, 1, 16, 32, 32, 1, 1, 16, 32, 32, 1, 1, 16, 32, 32] hE hM zeroL39 rfl rfl ?_; clear hE a; intro a b5 w5 hE hM'
  clear hM; have hM := hM'; clear hM'
  have hsl43_4 : ((readH ls.flatten).v0.2.2.1).length = 32 := (readH_ok hl496).v0.2.1
  have hsl43_5 : ((readH ls.flatten).v0.2.2.2).length = 32 := (readH_ok hl496).v0.2.2
  have hsl43_8 : ((readH ls.flatten).v1.2.2.1).length = 32 := (readH_ok hl496).v1.2.1
  have hsl43_9 : ((readH ls.flatten).v1.2.2.2).length = 32 := (readH_ok hl496).v1.2.2
  have hsl43_12 : ((readH ls.flatten).s0.2.2.1).length = 16 := (readH_ok hl496).s0.2.1
  have hsl43_13 : ((readH ls.flatten).s0.2.2.2.1).length = 32 := (readH_ok hl496).s0.2.2.1
  have hsl43_14 : ((readH ls.flatten).s0.2.2.2.2).length = 32 := (readH_ok hl496).s0.2.2.2
  have hsl43_17 : ((readH ls.flatten).s1.2.2.1).length = 16 := (readH_ok hl496).s1.2.1
  have hsl43_18 : ((readH ls.flatten).s1.2.2.2.1).length = 32 := (readH_ok hl496).s1.2.2.1
  have hsl43_19 : ((readH ls.flatten).s1.2.2.2.2).length = 32 := (readH_ok hl496).s1.2.2.2
  have hsl43_22 : ((readH ls.flatten).s2.2.2.1).length = 16 := (readH_ok hl496).s2.2.1
  have hsl43_23 : ((readH ls.flatten).s2.2.2.2.1).length = 32 := (readH_ok hl496).s2.2.2.1
  have hsl43_24 : ((readH ls.flatten).s2.2.2.2.2).length = 32 := (readH_ok hl496).s2.2.2.2
  have hsl43_27 : ((readH ls.flatten).s3.2.2.1).length = 16 := (readH_ok hl496).s3.2.1
  have hsl43_28 : ((readH ls.flatten).s3.2.2.2.1).length = 32 := (readH_ok hl496).s3.2.2.1
  have hsl43_29 : ((readH ls.flatten).s3.2.2.2.2).length = 32 := (readH_ok hl496).s3.2.2.2
  refine s_storeSegs 0 30 (vss := [[.int .i64 ((readH ls.flatten).m)], [.int .i64 ((readH ls.flatten).r)], [.bool ((readH ls.flatten).v0.1)], [.int .u64 (((readH ls.flatten).v0.2.1 : Nat) : Int)], bv ((readH ls.flatten).v0.2.2.1), bv ((readH ls.flatten).v0.2.2.2), [.bool ((readH ls.flatten).v1.1)], [.int .u64 (((readH ls.flatten).v1.2.1 : Nat) : Int)], bv ((readH ls.flatten).v1.2.2.1), bv ((readH ls.flatten).v1.2.2.2), [.bool ((readH ls.flatten).s0.1)], [.int .i64 ((readH ls.flatten).s0.2.1)], bv ((readH ls.flatten).s0.2.2.1), bv ((readH ls.flatten).s0.2.2.2.1), bv ((readH ls.flatten).s0.2.2.2.2), [.bool ((readH ls.flatten).s1.1)], [.int .i64 ((readH ls.flatten).s1.2.1)], bv ((readH ls.flatten).s1.2.2.1), bv ((readH ls.flatten).s1.2.2.2.1), bv ((readH ls.flatten).s1.2.2.2.2), [.bool ((readH ls.flatten).s2.1)], [.int .i64 ((readH ls.flatten).s2.2.1)], bv ((readH ls.flatten).s2.2.2.1), bv ((readH ls.flatten).s2.2.2.2.1), bv ((readH ls.flatten).s2.2.2.2.2), [.bool ((readH ls.flatten).s3.1)], [.int .i64 ((readH ls.flatten).s3.2.1)], bv ((readH ls.flatten).s3.2.2.1), bv ((readH ls.flatten).s3.2.2.2.1), bv ((readH ls.flatten).s3.2.2.2.2)]) hE rfl rfl hM rfl sz39 (by simp only [List.take_succ_cons, List.take_zero, List.drop_zero, List.drop_succ_cons]; simp only [List.map_cons, List.map_nil, bv_length, List.length_cons, List.length_nil, List.length_replicate, hsl43_4, hsl43_5, hsl43_8, hsl43_9, hsl43_12, hsl43_13, hsl43_14, hsl43_17, hsl43_18, hsl43_19, hsl43_22, hsl43_23, hsl43_24, hsl43_27, hsl43_28, hsl43_29]) (by decide) rfl (one_fl ⟨one1 rfl, one1 rfl, one1 rfl, one1 rfl, bv_one _, bv_one _, one1 rfl, one1 rfl, bv_one _, bv_one _, one1 rfl, one1 rfl, bv_one _, bv_one _, bv_one _, one1 rfl, one1 rfl, bv_one _, bv_one _, bv_one _, one1 rfl, one1 rfl, bv_one _, bv_one _, bv_one _, one1 rfl, one1 rfl, bv_one _, bv_one _, bv_one _, trivial⟩) rfl (by intro X h; cases h) ?_; intro w6 hM'; clear hM; have hM := hM'; clear hM'
  try simp only [List.take_zero, List.take_succ_cons, List.drop_zero, List.drop_succ_cons, List.take_nil, List.drop_nil, List.nil_append, List.append_nil, List.cons_append] at hM
  refine q_nil ?_
  replace hE : Env a 34 [(0, _), (2, _), (3, _), (4, _), (5, _)] := hE.sel [0, 2, 3, 4, 5] rfl
  refine hK3 _ _ ?_
  refine wp_seq_k (fun K4 hK4 => ?_)
  refine wp_seq_k (fun K5 hK5 => ?_)
  refine wp_drawnM hM (by kernel_rfl) (fun _ => False) [(0, true), (1, true), (2, true), (3, true), (4, true), (5, false), (6, true), (7, true), (8, true), (9, true), (14, true), (15, true), (10, false), (11, false), (12, false), (13, true), (16, true), (17, true)] [(5, [(6, 5), (7, 6), (8, 5), (9, 8), (14, 8), (15, 8), (10, 8), (11, 8), (12, 8), (13, 8), (16, 8), (17, 8)]), (10, [(11, 10), (12, 11), (13, 12), (16, 13), (17, 16)]), (11, [(12, 11), (13, 12), (16, 13), (17, 16)]), (12, [(13, 12), (16, 13), (17, 16)])] (by kernel_rfl) rfl ?_
  intro w7 hM' hww7; clear hM; have hM := hM'; clear hM'
  refine s_move hE rfl rfl ?_; clear hE a; intro a hE
  refine s_len hE rfl Try.underlying40 (rd_slice (hM.get 4 rfl)) rfl ?_; clear hE a; intro a hE
  refine s_bin hE rfl rfl bin_neq rfl ?_; clear hE a; intro a hE
  refine s_move hE rfl rfl ?_; clear hE a; intro a hE
  refine hE.split 14 rfl (fun hb14 hE' => ?_) (fun hb14 hE' => ?_)
  · replace hE := hE'; clear hE'
    replace hb14 := of_decide_eq_false (not_true hb14)
    replace hb14 : ¬ (ls.length = 8) := by omega
    refine g_no (b := true) hE rfl rfl rfl ?_; clear hE a; intro a hE
    refine g_no (b := true) hE rfl rfl rfl ?_; clear hE a; intro a hE
    refine g_no (b := true) hE rfl rfl rfl ?_; clear hE a; intro a hE
    refine s_pickt hE rfl rfl rfl ?_; clear hE a; intro a hE
    refine s_move hE rfl rfl ?_; clear hE a; intro a hE
    refine g_no (b := true) hE rfl rfl rfl ?_; clear hE a; intro a hE
    refine g_no (b := true) hE rfl rfl rfl ?_; clear hE a; intro a hE
    refine g_no (b := true) hE rfl rfl rfl ?_; clear hE a; intro a hE
    refine g_no (b := true) hE rfl rfl rfl ?_; clear hE a; intro a hE
    refine g_no (b := true) hE rfl rfl rfl ?_; clear hE a; intro a hE
    refine g_no (b := true) hE rfl rfl rfl ?_; clear hE a; intro a hE
    refine g_no (b := true) hE rfl rfl rfl ?_; clear hE a; intro a hE
    refine g_no (b := true) hE rfl rfl rfl ?_; clear hE a; intro a hE
    refine s_pickt hE rfl rfl rfl ?_; clear hE a; intro a hE
    refine q_nil ?_
    replace hE : Env a 34 [(0, _), (2, _), (3, _), (4, _), (5, _), (28, _)] := hE.sel [0, 2, 3, 4, 5, 28] rfl
    refine hK5 _ _ ?_
    refine wp_cond_true (hE.eval rfl) ?_
    refine wp_seq_k (fun K6 hK6 => ?_)
    refine wp_plain [true, false, true] rfl rfl ?_
    refine s_buildS [] hE rfl zero39 (by kernel_rfl) fpl39 (by first | (simp [PartsOk, Value.cells]; done) | (simp [PartsOk, Value.cells]; omega)) rfl ?_; clear hE a; intro a hE
    replace hE := hE.cast 29 rfl (show _ = Value.agg ([[.int .i64 0], [.int .i64 0], [.bool false], [.int .u64 0], bv (List.replicate 32 (0 : UInt8)), bv (List.replicate 32 (0 : UInt8)), [.bool false], [.int .u64 0], bv (List.replicate 32 (0 : UInt8)), bv (List.replicate 32 (0 : UInt8)), [.bool false], [.int .i64 0], bv (List.replicate 16 (0 : UInt8)), bv (List.replicate 32 (0 : UInt8)), bv (List.replicate 32 (0 : UInt8)), [.bool false], [.int .i64 0], bv (List.replicate 16 (0 : UInt8)), bv (List.replicate 32 (0 : UInt8)), bv (List.replicate 32 (0 : UInt8)), [.bool false], [.int .i64 0], bv (List.replicate 16 (0 : UInt8)), bv (List.replicate 32 (0 : UInt8)), bv (List.replicate 32 (0 : UInt8)), [.bool false], [.int .i64 0], bv (List.replicate 16 (0 : UInt8)), bv (List.replicate 32 (0 : UInt8)), bv (List.replicate 32 (0 : UInt8))] : List (List Value)).flatten.toArray from (by first | rfl | simp [setAll] | (simp only [setAll, List.set_cons_zero, List.set_cons_succ, List.flatten_cons, List.flatten_nil, List.append_nil, List.append_assoc, List.replicate_succ, List.replicate_zero])))
    have hsl98_4 : (List.replicate 32 (0 : UInt8)).length = 32 := List.length_replicate
    have hsl98_5 : (List.replicate 32 (0 : UInt8)).length = 32 := List.length_replicate
    have hsl98_8 : (List.replicate 32 (0 : UInt8)).length = 32 := List.length_replicate
    have hsl98_9 : (List.replicate 32 (0 : UInt8)).length = 32 := List.length_replicate
    have hsl98_12 : (List.replicate 16 (0 : UInt8)).length = 16 := List.length_replicate
    have hsl98_13 : (List.replicate 32 (0 : UInt8)).length = 32 := List.length_replicate
    have hsl98_14 : (List.replicate 32 (0 : UInt8)).length = 32 := List.length_replicate
    have hsl98_17 : (List.replicate 16 (0 : UInt8)).length = 16 := List.length_replicate
    have hsl98_18 : (List.replicate 32 (0 : UInt8)).length = 32 := List.length_replicate
    have hsl98_19 : (List.replicate 32 (0 : UInt8)).length = 32 := List.length_replicate
    have hsl98_22 : (List.replicate 16 (0 : UInt8)).length = 16 := List.length_replicate
    have hsl98_23 : (List.replicate 32 (0 : UInt8)).length = 32 := List.length_replicate
    have hsl98_24 : (List.replicate 32 (0 : UInt8)).length = 32 := List.length_replicate
    have hsl98_27 : (List.replicate 16 (0 : UInt8)).length = 16 := List.length_replicate
    have hsl98_28 : (List.replicate 32 (0 : UInt8)).length = 32 := List.length_replicate
    have hsl98_29 : (List.replicate 32 (0 : UInt8)).length = 32 := List.length_replicate
    replace hM : Mem _ _ w7 [_, _, _, _, _] := hM.pick [3, 0, 1, 2, 4] rfl
    refine s_storeSegs 0 30 (vss := [[.int .i64 0], [.int .i64 0], [.bool false], [.int .u64 0], bv (List.replicate 32 (0 : UInt8)), bv (List.replicate 32 (0 : UInt8)), [.bool false], [.int .u64 0], bv (List.replicate 32 (0 : UInt8)), bv (List.replicate 32 (0 : UInt8)), [.bool false], [.int .i64 0], bv (List.replicate 16 (0 : UInt8)), bv (List.replicate 32 (0 : UInt8)), bv (List.replicate 32 (0 : UInt8)), [.bool false], [.int .i64 0], bv (List.replicate 16 (0 : UInt8)), bv (List.replicate 32 (0 : UInt8)), bv (List.replicate 32 (0 : UInt8)), [.bool false], [.int .i64 0], bv (List.replicate 16 (0 : UInt8)), bv (List.replicate 32 (0 : UInt8)), bv (List.replicate 32 (0 : UInt8)), [.bool false], [.int .i64 0], bv (List.replicate 16 (0 : UInt8)), bv (List.replicate 32 (0 : UInt8)), bv (List.replicate 32 (0 : UInt8))]) hE rfl rfl hM rfl sz39 (by simp only [List.take_succ_cons, List.take_zero, List.drop_zero, List.drop_succ_cons]; simp only [List.map_cons, List.map_nil, bv_length, List.length_cons, List.length_nil, List.length_replicate, hsl98_4, hsl98_5, hsl98_8, hsl98_9, hsl98_12, hsl98_13, hsl98_14, hsl98_17, hsl98_18, hsl98_19, hsl98_22, hsl98_23, hsl98_24, hsl98_27, hsl98_28, hsl98_29]) (by decide) rfl (one_fl ⟨one1 rfl, one1 rfl, one1 rfl, one1 rfl, bv_one _, bv_one _, one1 rfl, one1 rfl, bv_one _, bv_one _, one1 rfl, one1 rfl, bv_one _, bv_one _, bv_one _, one1 rfl, one1 rfl, bv_one _, bv_one _, bv_one _, one1 rfl, one1 rfl, bv_one _, bv_one _, bv_one _, one1 rfl, one1 rfl, bv_one _, bv_one _, bv_one _, trivial⟩) rfl (by intro X h; cases h) ?_; intro w8 hM'; clear hM; have hM := hM'; clear hM'
    try simp only [List.take_zero, List.take_succ_cons, List.drop_zero, List.drop_succ_cons, List.take_nil, List.drop_nil, List.nil_append, List.append_nil, List.cons_append] at hM
    refine s_assign hE rfl rfl ?_; clear hE a; intro a hE
    refine q_nil ?_
    replace hE : Env a 34 [(0, _), (2, _), (3, _), (4, _), (5, _), (28, _)] := hE.sel [0, 2, 3, 4, 5, 28] rfl
    refine hK6 _ _ ?_
    refine wp_ret ?_
    refine q_then_r ?_
    refine f_ret2 hE rfl (res_cellN rfl (hM.get 0 rfl) row39 rfl) rfl ?_
    exact ⟨(by first | rfl | (simp [zH, zV, zS]; done)), hM.pick [] rfl⟩
  · replace hE := hE'; clear hE'
    replace hb14 := of_decide_eq_true (not_false' hb14)
    replace hb14 : ls.length = 8 := by omega
    have hl8 : ls.length = 8 := by omega
    refine g_yes hE rfl rfl ?_
    refine s_loadN hE rfl (hM.get 0 rfl) row39 rfl (by intro X h; cases h; simp) rfl ?_; clear hE a; intro a hE
    replace hE := hE.cast 15 rfl (show _ = Value.agg ([[.int .i64 ((readH ls.flatten).m)], [.int .i64 ((readH ls.flatten).r)], [.bool ((readH ls.flatten).v0.1)], [.int .u64 (((readH ls.flatten).v0.2.1 : Nat) : Int)], bv ((readH ls.flatten).v0.2.2.1), bv ((readH ls.flatten).v0.2.2.2), [.bool ((readH ls.flatten).v1.1)], [.int .u64 (((readH ls.flatten).v1.2.1 : Nat) : Int)], bv ((readH ls.flatten).v1.2.2.1), bv ((readH ls.flatten).v1.2.2.2), [.bool ((readH ls.flatten).s0.1)], [.int .i64 ((readH ls.flatten).s0.2.1)], bv ((readH ls.flatten).s0.2.2.1), bv ((readH ls.flatten).s0.2.2.2.1), bv ((readH ls.flatten).s0.2.2.2.2), [.bool ((readH ls.flatten).s1.1)], [.int .i64 ((readH ls.flatten).s1.2.1)], bv ((readH ls.flatten).s1.2.2.1), bv ((readH ls.flatten).s1.2.2.2.1), bv ((readH ls.flatten).s1.2.2.2.2), [.bool ((readH ls.flatten).s2.1)], [.int .i64 ((readH ls.flatten).s2.2.1)], bv ((readH ls.flatten).s2.2.2.1), bv ((readH ls.flatten).s2.2.2.2.1), bv ((readH ls.flatten).s2.2.2.2.2), [.bool ((readH ls.flatten).s3.1)], [.int .i64 ((readH ls.flatten).s3.2.1)], bv ((readH ls.flatten).s3.2.2.1), bv ((readH ls.flatten).s3.2.2.2.1), bv ((readH ls.flatten).s3.2.2.2.2)] : List (List Value)).flatten.toArray from (by first | rfl | simp only [List.flatten_cons, List.flatten_nil, List.append_nil, List.append_assoc]))
    refine g_yes hE rfl rfl ?_
    refine s_call hE rfl Try.call23 (shaped_c (readH ls.flatten) _ (readH_ok hl496) ) rfl ?_
    rintro e w8 ⟨rfl, hN⟩
    refine ⟨_, rfl, hN.sta0 _, ?_⟩; clear hE a; intro a hE
    replace hM : Mem _ _ w8 [_, _, _, _, _] := hM.call0 hN trivial; clear hN
    refine g_yes hE rfl rfl ?_
    refine s_not hE rfl rfl ?_; clear hE a; intro a hE
    refine s_pickf hE rfl rfl rfl ?_; clear hE a; intro a hE
    refine s_move hE rfl rfl ?_; clear hE a; intro a hE
    refine hE.split 19 rfl (fun hb19 hE' => ?_) (fun hb19 hE' => ?_)
    · replace hE := hE'; clear hE'
      replace hb19 := not_true hb19
      refine g_no (b := true) hE rfl rfl rfl ?_; clear hE a; intro a hE
      refine g_no (b := true) hE rfl rfl rfl ?_; clear hE a; intro a hE
      refine g_no (b := true) hE rfl rfl rfl ?_; clear hE a; intro a hE
      refine g_no (b := true) hE rfl rfl rfl ?_; clear hE a; intro a hE
      refine g_no (b := true) hE rfl rfl rfl ?_; clear hE a; intro a hE
      refine g_no (b := true) hE rfl rfl rfl ?_; clear hE a; intro a hE
      refine g_no (b := true) hE rfl rfl rfl ?_; clear hE a; intro a hE
      refine g_no (b := true) hE rfl rfl rfl ?_; clear hE a; intro a hE
      refine s_pickt hE rfl rfl rfl ?_; clear hE a; intro a hE
      refine q_nil ?_
      replace hE : Env a 34 [(0, _), (2, _), (3, _), (4, _), (5, _), (28, _)] := hE.sel [0, 2, 3, 4, 5, 28] rfl
      refine hK5 _ _ ?_
      refine wp_cond_true (hE.eval rfl) ?_
      refine wp_seq_k (fun K6 hK6 => ?_)
      refine wp_plain [true, false, true] rfl rfl ?_
      refine s_buildS [] hE rfl zero39 (by kernel_rfl) fpl39 (by first | (simp [PartsOk, Value.cells]; done) | (simp [PartsOk, Value.cells]; omega)) rfl ?_; clear hE a; intro a hE
      replace hE := hE.cast 29 rfl (show _ = Value.agg ([[.int .i64 0], [.int .i64 0], [.bool false], [.int .u64 0], bv (List.replicate 32 (0 : UInt8)), bv (List.replicate 32 (0 : UInt8)), [.bool false], [.int .u64 0], bv (List.replicate 32 (0 : UInt8)), bv (List.replicate 32 (0 : UInt8)), [.bool false], [.int .i64 0], bv (List.replicate 16 (0 : UInt8)), bv (List.replicate 32 (0 : UInt8)), bv (List.replicate 32 (0 : UInt8)), [.bool false], [.int .i64 0], bv (List.replicate 16 (0 : UInt8)), bv (List.replicate 32 (0 : UInt8)), bv (List.replicate 32 (0 : UInt8)), [.bool false], [.int .i64 0], bv (List.replicate 16 (0 : UInt8)), bv (List.replicate 32 (0 : UInt8)), bv (List.replicate 32 (0 : UInt8)), [.bool false], [.int .i64 0], bv (List.replicate 16 (0 : UInt8)), bv (List.replicate 32 (0 : UInt8)), bv (List.replicate 32 (0 : UInt8))] : List (List Value)).flatten.toArray from (by first | rfl | simp [setAll] | (simp only [setAll, List.set_cons_zero, List.set_cons_succ, List.flatten_cons, List.flatten_nil, List.append_nil, List.append_assoc, List.replicate_succ, List.replicate_zero])))
      have hsl161_4 : (List.replicate 32 (0 : UInt8)).length = 32 := List.length_replicate
      have hsl161_5 : (List.replicate 32 (0 : UInt8)).length = 32 := List.length_replicate
      have hsl161_8 : (List.replicate 32 (0 : UInt8)).length = 32 := List.length_replicate
      have hsl161_9 : (List.replicate 32 (0 : UInt8)).length = 32 := List.length_replicate
      have hsl161_12 : (List.replicate 16 (0 : UInt8)).length = 16 := List.length_replicate
      have hsl161_13 : (List.replicate 32 (0 : UInt8)).length = 32 := List.length_replicate
      have hsl161_14 : (List.replicate 32 (0 : UInt8)).length = 32 := List.length_replicate
      have hsl161_17 : (List.replicate 16 (0 : UInt8)).length = 16 := List.length_replicate
      have hsl161_18 : (List.replicate 32 (0 : UInt8)).length = 32 := List.length_replicate
      have hsl161_19 : (List.replicate 32 (0 : UInt8)).length = 32 := List.length_replicate
      have hsl161_22 : (List.replicate 16 (0 : UInt8)).length = 16 := List.length_replicate
      have hsl161_23 : (List.replicate 32 (0 : UInt8)).length = 32 := List.length_replicate
      have hsl161_24 : (List.replicate 32 (0 : UInt8)).length = 32 := List.length_replicate
      have hsl161_27 : (List.replicate 16 (0 : UInt8)).length = 16 := List.length_replicate
      have hsl161_28 : (List.replicate 32 (0 : UInt8)).length = 32 := List.length_replicate
      have hsl161_29 : (List.replicate 32 (0 : UInt8)).length = 32 := List.length_replicate
      replace hM : Mem _ _ w8 [_, _, _, _, _] := hM.pick [3, 0, 1, 2, 4] rfl
      refine s_storeSegs 0 30 (vss := [[.int .i64 0], [.int .i64 0], [.bool false], [.int .u64 0], bv (List.replicate 32 (0 : UInt8)), bv (List.replicate 32 (0 : UInt8)), [.bool false], [.int .u64 0], bv (List.replicate 32 (0 : UInt8)), bv (List.replicate 32 (0 : UInt8)), [.bool false], [.int .i64 0], bv (List.replicate 16 (0 : UInt8)), bv (List.replicate 32 (0 : UInt8)), bv (List.replicate 32 (0 : UInt8)), [.bool false], [.int .i64 0], bv (List.replicate 16 (0 : UInt8)), bv (List.replicate 32 (0 : UInt8)), bv (List.replicate 32 (0 : UInt8)), [.bool false], [.int .i64 0], bv (List.replicate 16 (0 : UInt8)), bv (List.replicate 32 (0 : UInt8)), bv (List.replicate 32 (0 : UInt8)), [.bool false], [.int .i64 0], bv (List.replicate 16 (0 : UInt8)), bv (List.replicate 32 (0 : UInt8)), bv (List.replicate 32 (0 : UInt8))]) hE rfl rfl hM rfl sz39 (by simp only [List.take_succ_cons, List.take_zero, List.drop_zero, List.drop_succ_cons]; simp only [List.map_cons, List.map_nil, bv_length, List.length_cons, List.length_nil, List.length_replicate, hsl161_4, hsl161_5, hsl161_8, hsl161_9, hsl161_12, hsl161_13, hsl161_14, hsl161_17, hsl161_18, hsl161_19, hsl161_22, hsl161_23, hsl161_24, hsl161_27, hsl161_28, hsl161_29]) (by decide) rfl (one_fl ⟨one1 rfl, one1 rfl, one1 rfl, one1 rfl, bv_one _, bv_one _, one1 rfl, one1 rfl, bv_one _, bv_one _, one1 rfl, one1 rfl, bv_one _, bv_one _, bv_one _, one1 rfl, one1 rfl, bv_one _, bv_one _, bv_one _, one1 rfl, one1 rfl, bv_one _, bv_one _, bv_one _, one1 rfl, one1 rfl, bv_one _, bv_one _, bv_one _, trivial⟩) rfl (by intro X h; cases h) ?_; intro w9 hM'; clear hM; have hM := hM'; clear hM'
      try simp only [List.take_zero, List.take_succ_cons, List.drop_zero, List.drop_succ_cons, List.take_nil, List.drop_nil, List.nil_append, List.append_nil, List.cons_append] at hM
      refine s_assign hE rfl rfl ?_; clear hE a; intro a hE
      refine q_nil ?_
      replace hE : Env a 34 [(0, _), (2, _), (3, _), (4, _), (5, _), (28, _)] := hE.sel [0, 2, 3, 4, 5, 28] rfl
      refine hK6 _ _ ?_
      refine wp_ret ?_
      refine q_then_r ?_
      refine f_ret2 hE rfl (res_cellN rfl (hM.get 0 rfl) row39 rfl) rfl ?_
      exact ⟨(by first | rfl | (simp [zH, zV, zS]; done)), hM.pick [] rfl⟩
    · replace hE := hE'; clear hE'
      replace hb19 := not_false' hb19
      have hne := getOkH_ne hg hl8 hb19
      refine g_yes hE rfl rfl ?_
      refine s_loadN hE rfl (hM.get 0 rfl) row39 rfl (by intro X h; cases h; simp) rfl ?_; clear hE a; intro a hE
      replace hE := hE.cast 20 rfl (show _ = Value.agg ([[.int .i64 ((readH ls.flatten).m)], [.int .i64 ((readH ls.flatten).r)], [.bool ((readH ls.flatten).v0.1)], [.int .u64 (((readH ls.flatten).v0.2.1 : Nat) : Int)], bv ((readH ls.flatten).v0.2.2.1), bv ((readH ls.flatten).v0.2.2.2), [.bool ((readH ls.flatten).v1.1)], [.int .u64 (((readH ls.flatten).v1.2.1 : Nat) : Int)], bv ((readH ls.flatten).v1.2.2.1), bv ((readH ls.flatten).v1.2.2.2), [.bool ((readH ls.flatten).s0.1)], [.int .i64 ((readH ls.flatten).s0.2.1)], bv ((readH ls.flatten).s0.2.2.1), bv ((readH ls.flatten).s0.2.2.2.1), bv ((readH ls.flatten).s0.2.2.2.2), [.bool ((readH ls.flatten).s1.1)], [.int .i64 ((readH ls.flatten).s1.2.1)], bv ((readH ls.flatten).s1.2.2.1), bv ((readH ls.flatten).s1.2.2.2.1), bv ((readH ls.flatten).s1.2.2.2.2), [.bool ((readH ls.flatten).s2.1)], [.int .i64 ((readH ls.flatten).s2.2.1)], bv ((readH ls.flatten).s2.2.2.1), bv ((readH ls.flatten).s2.2.2.2.1), bv ((readH ls.flatten).s2.2.2.2.2), [.bool ((readH ls.flatten).s3.1)], [.int .i64 ((readH ls.flatten).s3.2.1)], bv ((readH ls.flatten).s3.2.2.1), bv ((readH ls.flatten).s3.2.2.2.1), bv ((readH ls.flatten).s3.2.2.2.2)] : List (List Value)).flatten.toArray from (by first | rfl | simp only [List.flatten_cons, List.flatten_nil, List.append_nil, List.append_assoc]))
      refine g_yes hE rfl rfl ?_
      refine s_move hE rfl rfl ?_; clear hE a; intro a hE
      refine g_yes hE rfl rfl ?_
      obtain ⟨cs26, hs26⟩ := own_rd (hM.get 2 rfl)
      refine s_toStr hE rfl Try.underlying55 Try.underlying5 Try.underlying9 hs26 (by intro X h; cases h; simp) rfl ?_; clear hE a; intro a hE
      refine g_yes hE rfl rfl ?_
      refine s_call hE rfl Try.call20 (hlay_c (readH ls.flatten) _ (readH_ok hl496) (by assumption) (readH_it hl496)) rfl ?_
      rintro e w9 ⟨v21, rfl, hN⟩
      refine ⟨_, rfl, hN.sta0 _, ?_⟩; clear hE a; intro a hE
      replace hM : Mem _ _ w9 [_, _, _, _, _, _] := hM.call0 hN ⟨rfl, trivial⟩; clear hN
      refine g_yes hE rfl rfl ?_
      obtain ⟨cq2, hq2⟩ := own_rd (hM.get 0 rfl)
      refine s_call hE rfl Try.call19 (hcut_c _ (layH (readH ls.flatten)) _ _ hq2 (layH_len (readH_ok hl496))) rfl ?_
      rintro e w10 ⟨v22, rfl, hN⟩
      refine ⟨_, rfl, hN.sta0 _, ?_⟩; clear hE a; intro a hE
      replace hM : Mem _ _ w10 [_, _, _, _, _, _, _] := hM.call0 hN ⟨rfl, trivial⟩; clear hN
      refine g_yes hE rfl rfl ?_
      obtain ⟨cq3, hq3⟩ := own_rd (hM.get 0 rfl)
      refine s_call hE rfl Try.call16 (hbytes_c _ (cutH (layH (readH ls.flatten))) _ _ hq3 (cutH_ok (layH_len (readH_ok hl496))) (by first | omega | assumption | (simp; done) | (simp; omega) | decide)) rfl ?_
      rintro e w11 ⟨v23, rfl, hN⟩
      refine ⟨_, rfl, hN.sta0 _, ?_⟩; clear hE a; intro a hE
      replace hM : Mem _ _ w11 [_, _, _, _, _, _, _, _] := hM.call0 hN ⟨rfl, trivial⟩; clear hN
      refine g_yes hE rfl rfl ?_
      obtain ⟨cs24, hs24⟩ := own_rd (hM.get 0 rfl)
      refine s_toStr hE rfl Try.underlying55 Try.underlying5 Try.underlying9 hs24 (by intro X h; cases h; simp) rfl ?_; clear hE a; intro a hE
      refine g_yes hE rfl rfl ?_
      refine s_bin hE rfl rfl bins_str.2 rfl ?_; clear hE a; intro a hE
      refine s_pickf hE rfl rfl rfl ?_; clear hE a; intro a hE
      refine q_nil ?_
      replace hE : Env a 34 [(0, _), (2, _), (3, _), (4, _), (5, _), (28, _)] := hE.sel [0, 2, 3, 4, 5, 28] rfl
      refine hK5 _ _ ?_
      replace hE := hE.cast 28 rfl (show _ = Value.bool true from (congrArg Value.bool (by first | rfl | (rw [hCF]; simp [hne]; done) | (simp [hCF, hne]; done))))
      refine wp_cond_true (hE.eval rfl) ?_
      refine wp_seq_k (fun K6 hK6 => ?_)
      refine wp_plain [true, false, true] rfl rfl ?_
      refine s_buildS [] hE rfl zero39 (by kernel_rfl) fpl39 (by first | (simp [PartsOk, Value.cells]; done) | (simp [PartsOk, Value.cells]; omega)) rfl ?_; clear hE a; intro a hE
      replace hE := hE.cast 29 rfl (show _ = Value.agg ([[.int .i64 0], [.int .i64 0], [.bool false], [.int .u64 0], bv (List.replicate 32 (0 : UInt8)), bv (List.replicate 32 (0 : UInt8)), [.bool false], [.int .u64 0], bv (List.replicate 32 (0 : UInt8)), bv (List.replicate 32 (0 : UInt8)), [.bool false], [.int .i64 0], bv (List.replicate 16 (0 : UInt8)), bv (List.replicate 32 (0 : UInt8)), bv (List.replicate 32 (0 : UInt8)), [.bool false], [.int .i64 0], bv (List.replicate 16 (0 : UInt8)), bv (List.replicate 32 (0 : UInt8)), bv (List.replicate 32 (0 : UInt8)), [.bool false], [.int .i64 0], bv (List.replicate 16 (0 : UInt8)), bv (List.replicate 32 (0 : UInt8)), bv (List.replicate 32 (0 : UInt8)), [.bool false], [.int .i64 0], bv (List.replicate 16 (0 : UInt8)), bv (List.replicate 32 (0 : UInt8)), bv (List.replicate 32 (0 : UInt8))] : List (List Value)).flatten.toArray from (by first | rfl | simp [setAll] | (simp only [setAll, List.set_cons_zero, List.set_cons_succ, List.flatten_cons, List.flatten_nil, List.append_nil, List.append_assoc, List.replicate_succ, List.replicate_zero])))
      have hsl231_4 : (List.replicate 32 (0 : UInt8)).length = 32 := List.length_replicate
      have hsl231_5 : (List.replicate 32 (0 : UInt8)).length = 32 := List.length_replicate
      have hsl231_8 : (List.replicate 32 (0 : UInt8)).length = 32 := List.length_replicate
      have hsl231_9 : (List.replicate 32 (0 : UInt8)).length = 32 := List.length_replicate
      have hsl231_12 : (List.replicate 16 (0 : UInt8)).length = 16 := List.length_replicate
      have hsl231_13 : (List.replicate 32 (0 : UInt8)).length = 32 := List.length_replicate
      have hsl231_14 : (List.replicate 32 (0 : UInt8)).length = 32 := List.length_replicate
      have hsl231_17 : (List.replicate 16 (0 : UInt8)).length = 16 := List.length_replicate
      have hsl231_18 : (List.replicate 32 (0 : UInt8)).length = 32 := List.length_replicate
      have hsl231_19 : (List.replicate 32 (0 : UInt8)).length = 32 := List.length_replicate
      have hsl231_22 : (List.replicate 16 (0 : UInt8)).length = 16 := List.length_replicate
      have hsl231_23 : (List.replicate 32 (0 : UInt8)).length = 32 := List.length_replicate
      have hsl231_24 : (List.replicate 32 (0 : UInt8)).length = 32 := List.length_replicate
      have hsl231_27 : (List.replicate 16 (0 : UInt8)).length = 16 := List.length_replicate
      have hsl231_28 : (List.replicate 32 (0 : UInt8)).length = 32 := List.length_replicate
      have hsl231_29 : (List.replicate 32 (0 : UInt8)).length = 32 := List.length_replicate
      replace hM : Mem _ _ w11 [_, _, _, _, _, _, _, _] := hM.pick [6, 0, 1, 2, 3, 4, 5, 7] rfl
      refine s_storeSegs 0 30 (vss := [[.int .i64 0], [.int .i64 0], [.bool false], [.int .u64 0], bv (List.replicate 32 (0 : UInt8)), bv (List.replicate 32 (0 : UInt8)), [.bool false], [.int .u64 0], bv (List.replicate 32 (0 : UInt8)), bv (List.replicate 32 (0 : UInt8)), [.bool false], [.int .i64 0], bv (List.replicate 16 (0 : UInt8)), bv (List.replicate 32 (0 : UInt8)), bv (List.replicate 32 (0 : UInt8)), [.bool false], [.int .i64 0], bv (List.replicate 16 (0 : UInt8)), bv (List.replicate 32 (0 : UInt8)), bv (List.replicate 32 (0 : UInt8)), [.bool false], [.int .i64 0], bv (List.replicate 16 (0 : UInt8)), bv (List.replicate 32 (0 : UInt8)), bv (List.replicate 32 (0 : UInt8)), [.bool false], [.int .i64 0], bv (List.replicate 16 (0 : UInt8)), bv (List.replicate 32 (0 : UInt8)), bv (List.replicate 32 (0 : UInt8))]) hE rfl rfl hM rfl sz39 (by simp only [List.take_succ_cons, List.take_zero, List.drop_zero, List.drop_succ_cons]; simp only [List.map_cons, List.map_nil, bv_length, List.length_cons, List.length_nil, List.length_replicate, hsl231_4, hsl231_5, hsl231_8, hsl231_9, hsl231_12, hsl231_13, hsl231_14, hsl231_17, hsl231_18, hsl231_19, hsl231_22, hsl231_23, hsl231_24, hsl231_27, hsl231_28, hsl231_29]) (by decide) rfl (one_fl ⟨one1 rfl, one1 rfl, one1 rfl, one1 rfl, bv_one _, bv_one _, one1 rfl, one1 rfl, bv_one _, bv_one _, one1 rfl, one1 rfl, bv_one _, bv_one _, bv_one _, one1 rfl, one1 rfl, bv_one _, bv_one _, bv_one _, one1 rfl, one1 rfl, bv_one _, bv_one _, bv_one _, one1 rfl, one1 rfl, bv_one _, bv_one _, bv_one _, trivial⟩) rfl (by intro X h; cases h) ?_; intro w12 hM'; clear hM; have hM := hM'; clear hM'
      try simp only [List.take_zero, List.take_succ_cons, List.drop_zero, List.drop_succ_cons, List.take_nil, List.drop_nil, List.nil_append, List.append_nil, List.cons_append] at hM
      refine s_assign hE rfl rfl ?_; clear hE a; intro a hE
      refine q_nil ?_
      replace hE : Env a 34 [(0, _), (2, _), (3, _), (4, _), (5, _), (28, _)] := hE.sel [0, 2, 3, 4, 5, 28] rfl
      refine hK6 _ _ ?_
      refine wp_ret ?_
      refine q_then_r ?_
      refine f_ret2 hE rfl (res_cellN rfl (hM.get 0 rfl) row39 rfl) rfl ?_
      exact ⟨(by first | rfl | (simp [zH, zV, zS]; done)), hM.pick [] rfl⟩
end Go.Proofs.Ytamjaacddbecaaa
