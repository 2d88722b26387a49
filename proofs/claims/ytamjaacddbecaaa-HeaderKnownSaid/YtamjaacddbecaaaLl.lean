/- Walks of functions of the given program that the claim reaches. -/
import Derived.Test.YtamjaacddbecaaaLf
set_option linter.unusedSimpArgs false
set_option linter.unusedVariables false
namespace Go.Proofs.Ytamjaacddbecaaa
open Go Go.Kx
theorem kl39 : ∀ {k : Nat} {x0 : Int} {x1 : Int} {x2 : Bool} {x3 : Int} {x4 : List UInt8} {x5 : List UInt8} {x6 : Bool} {x7 : Int} {x8 : List UInt8} {x9 : List UInt8} {x10 : Bool} {x11 : Int} {x12 : List UInt8} {x13 : List UInt8} {x14 : List UInt8} {x15 : Bool} {x16 : Int} {x17 : List UInt8} {x18 : List UInt8} {x19 : List UInt8} {x20 : Bool} {x21 : Int} {x22 : List UInt8} {x23 : List UInt8} {x24 : List UInt8} {x25 : Bool} {x26 : Int} {x27 : List UInt8} {x28 : List UInt8} {x29 : List UInt8} (hx0 : (Lit.int .i64 x0).wf = true) (hx1 : (Lit.int .i64 x1).wf = true) (hx3 : (Lit.int .u64 x3).wf = true) (hx4 : x4.length = 32) (hx5 : x5.length = 32) (hx7 : (Lit.int .u64 x7).wf = true) (hx8 : x8.length = 32) (hx9 : x9.length = 32) (hx11 : (Lit.int .i64 x11).wf = true) (hx12 : x12.length = 16) (hx13 : x13.length = 32) (hx14 : x14.length = 32) (hx16 : (Lit.int .i64 x16).wf = true) (hx17 : x17.length = 16) (hx18 : x18.length = 32) (hx19 : x19.length = 32) (hx21 : (Lit.int .i64 x21).wf = true) (hx22 : x22.length = 16) (hx23 : x23.length = 32) (hx24 : x24.length = 32) (hx26 : (Lit.int .i64 x26).wf = true) (hx27 : x27.length = 16) (hx28 : x28.length = 32) (hx29 : x29.length = 32), KL Try.prog (k + 6) 39 ([[[.int .i64 x0], [.int .i64 x1]].flatten, [[[.bool x2], [.int .u64 x3], [bv x4, bv x5].flatten].flatten, [[.bool x6], [.int .u64 x7], [bv x8, bv x9].flatten].flatten].flatten, [[[.bool x10], [.int .i64 x11], bv x12, [bv x13, bv x14].flatten].flatten, [[.bool x15], [.int .i64 x16], bv x17, [bv x18, bv x19].flatten].flatten, [[.bool x20], [.int .i64 x21], bv x22, [bv x23, bv x24].flatten].flatten, [[.bool x25], [.int .i64 x26], bv x27, [bv x28, bv x29].flatten].flatten].flatten].flatten) := fun {k} {x0} {x1} {x2} {x3} {x4} {x5} {x6} {x7} {x8} {x9} {x10} {x11} {x12} {x13} {x14} {x15} {x16} {x17} {x18} {x19} {x20} {x21} {x22} {x23} {x24} {x25} {x26} {x27} {x28} {x29} hx0 hx1 hx3 hx4 hx5 hx7 hx8 hx9 hx11 hx12 hx13 hx14 hx16 hx17 hx18 hx19 hx21 hx22 hx23 hx24 hx26 hx27 hx28 hx29 => KL.struct [2, 132, 328] Try.underlying39 (by kernel_rfl) (by kernel_rfl) (by kernel_rfl) (by simp [*]) [23, 32, 37] (by kernel_rfl) ⟨KL.struct [1, 1] Try.underlying23 (by kernel_rfl) (by kernel_rfl) (by kernel_rfl) (by simp [*]) [3, 3] (by kernel_rfl) ⟨KL.int Try.underlying3 hx0, KL.int Try.underlying3 hx1, trivial⟩, KL.array Try.underlying32 (m := 66) (by kernel_rfl) (by kernel_rfl) rfl (by intro p hp; simp only [List.mem_cons, List.not_mem_nil, or_false] at hp; rcases hp with rfl | rfl; exact ⟨KL.struct [1, 1, 64] Try.underlying31 (by kernel_rfl) (by kernel_rfl) (by kernel_rfl) (by simp [*]) [4, 24, 29] (by kernel_rfl) ⟨KL.bool Try.underlying4, KL.int Try.underlying24 hx3, KL.struct [32, 32] Try.underlying29 (by kernel_rfl) (by kernel_rfl) (by kernel_rfl) (by simp [*]) [26, 27] (by kernel_rfl) ⟨KL.arr8 Try.underlying26 Try.underlying5 (by kernel_rfl) (by kernel_rfl) hx4, KL.arr8 Try.underlying27 Try.underlying5 (by kernel_rfl) (by kernel_rfl) hx5, trivial⟩, trivial⟩, by simp [*]⟩; exact ⟨KL.struct [1, 1, 64] Try.underlying31 (by kernel_rfl) (by kernel_rfl) (by kernel_rfl) (by simp [*]) [4, 24, 29] (by kernel_rfl) ⟨KL.bool Try.underlying4, KL.int Try.underlying24 hx7, KL.struct [32, 32] Try.underlying29 (by kernel_rfl) (by kernel_rfl) (by kernel_rfl) (by simp [*]) [26, 27] (by kernel_rfl) ⟨KL.arr8 Try.underlying26 Try.underlying5 (by kernel_rfl) (by kernel_rfl) hx8, KL.arr8 Try.underlying27 Try.underlying5 (by kernel_rfl) (by kernel_rfl) hx9, trivial⟩, trivial⟩, by simp [*]⟩), KL.array Try.underlying37 (m := 82) (by kernel_rfl) (by kernel_rfl) rfl (by intro p hp; simp only [List.mem_cons, List.not_mem_nil, or_false] at hp; rcases hp with rfl | rfl | rfl | rfl; exact ⟨KL.struct [1, 1, 16, 64] Try.underlying36 (by kernel_rfl) (by kernel_rfl) (by kernel_rfl) (by simp [*]) [4, 3, 34, 29] (by kernel_rfl) ⟨KL.bool Try.underlying4, KL.int Try.underlying3 hx11, KL.arr8 Try.underlying34 Try.underlying5 (by kernel_rfl) (by kernel_rfl) hx12, KL.struct [32, 32] Try.underlying29 (by kernel_rfl) (by kernel_rfl) (by kernel_rfl) (by simp [*]) [26, 27] (by kernel_rfl) ⟨KL.arr8 Try.underlying26 Try.underlying5 (by kernel_rfl) (by kernel_rfl) hx13, KL.arr8 Try.underlying27 Try.underlying5 (by kernel_rfl) (by kernel_rfl) hx14, trivial⟩, trivial⟩, by simp [*]⟩; exact ⟨KL.struct [1, 1, 16, 64] Try.underlying36 (by kernel_rfl) (by kernel_rfl) (by kernel_rfl) (by simp [*]) [4, 3, 34, 29] (by kernel_rfl) ⟨KL.bool Try.underlying4, KL.int Try.underlying3 hx16, KL.arr8 Try.underlying34 Try.underlying5 (by kernel_rfl) (by kernel_rfl) hx17, KL.struct [32, 32] Try.underlying29 (by kernel_rfl) (by kernel_rfl) (by kernel_rfl) (by simp [*]) [26, 27] (by kernel_rfl) ⟨KL.arr8 Try.underlying26 Try.underlying5 (by kernel_rfl) (by kernel_rfl) hx18, KL.arr8 Try.underlying27 Try.underlying5 (by kernel_rfl) (by kernel_rfl) hx19, trivial⟩, trivial⟩, by simp [*]⟩; exact ⟨KL.struct [1, 1, 16, 64] Try.underlying36 (by kernel_rfl) (by kernel_rfl) (by kernel_rfl) (by simp [*]) [4, 3, 34, 29] (by kernel_rfl) ⟨KL.bool Try.underlying4, KL.int Try.underlying3 hx21, KL.arr8 Try.underlying34 Try.underlying5 (by kernel_rfl) (by kernel_rfl) hx22, KL.struct [32, 32] Try.underlying29 (by kernel_rfl) (by kernel_rfl) (by kernel_rfl) (by simp [*]) [26, 27] (by kernel_rfl) ⟨KL.arr8 Try.underlying26 Try.underlying5 (by kernel_rfl) (by kernel_rfl) hx23, KL.arr8 Try.underlying27 Try.underlying5 (by kernel_rfl) (by kernel_rfl) hx24, trivial⟩, trivial⟩, by simp [*]⟩; exact ⟨KL.struct [1, 1, 16, 64] Try.underlying36 (by kernel_rfl) (by kernel_rfl) (by kernel_rfl) (by simp [*]) [4, 3, 34, 29] (by kernel_rfl) ⟨KL.bool Try.underlying4, KL.int Try.underlying3 hx26, KL.arr8 Try.underlying34 Try.underlying5 (by kernel_rfl) (by kernel_rfl) hx27, KL.struct [32, 32] Try.underlying29 (by kernel_rfl) (by kernel_rfl) (by kernel_rfl) (by simp [*]) [26, 27] (by kernel_rfl) ⟨KL.arr8 Try.underlying26 Try.underlying5 (by kernel_rfl) (by kernel_rfl) hx28, KL.arr8 Try.underlying27 Try.underlying5 (by kernel_rfl) (by kernel_rfl) hx29, trivial⟩, trivial⟩, by simp [*]⟩), trivial⟩
theorem klL39 : ∀ {k : Nat} {x0 : Int} {x1 : Int} {x2 : Bool} {x3 : Int} {x4 : List UInt8} {x5 : List UInt8} {x6 : Bool} {x7 : Int} {x8 : List UInt8} {x9 : List UInt8} {x10 : Bool} {x11 : Int} {x12 : List UInt8} {x13 : List UInt8} {x14 : List UInt8} {x15 : Bool} {x16 : Int} {x17 : List UInt8} {x18 : List UInt8} {x19 : List UInt8} {x20 : Bool} {x21 : Int} {x22 : List UInt8} {x23 : List UInt8} {x24 : List UInt8} {x25 : Bool} {x26 : Int} {x27 : List UInt8} {x28 : List UInt8} {x29 : List UInt8} (hx0 : (Lit.int .i64 x0).wf = true) (hx1 : (Lit.int .i64 x1).wf = true) (hx3 : (Lit.int .u64 x3).wf = true) (hx4 : x4.length = 32) (hx5 : x5.length = 32) (hx7 : (Lit.int .u64 x7).wf = true) (hx8 : x8.length = 32) (hx9 : x9.length = 32) (hx11 : (Lit.int .i64 x11).wf = true) (hx12 : x12.length = 16) (hx13 : x13.length = 32) (hx14 : x14.length = 32) (hx16 : (Lit.int .i64 x16).wf = true) (hx17 : x17.length = 16) (hx18 : x18.length = 32) (hx19 : x19.length = 32) (hx21 : (Lit.int .i64 x21).wf = true) (hx22 : x22.length = 16) (hx23 : x23.length = 32) (hx24 : x24.length = 32) (hx26 : (Lit.int .i64 x26).wf = true) (hx27 : x27.length = 16) (hx28 : x28.length = 32) (hx29 : x29.length = 32), KL Try.prog (k + 6) 39 ([[.int .i64 x0], [.int .i64 x1], [.bool x2], [.int .u64 x3], bv x4, bv x5, [.bool x6], [.int .u64 x7], bv x8, bv x9, [.bool x10], [.int .i64 x11], bv x12, bv x13, bv x14, [.bool x15], [.int .i64 x16], bv x17, bv x18, bv x19, [.bool x20], [.int .i64 x21], bv x22, bv x23, bv x24, [.bool x25], [.int .i64 x26], bv x27, bv x28, bv x29] : List (List Value)).flatten := fun {k} {x0} {x1} {x2} {x3} {x4} {x5} {x6} {x7} {x8} {x9} {x10} {x11} {x12} {x13} {x14} {x15} {x16} {x17} {x18} {x19} {x20} {x21} {x22} {x23} {x24} {x25} {x26} {x27} {x28} {x29} hx0 hx1 hx3 hx4 hx5 hx7 hx8 hx9 hx11 hx12 hx13 hx14 hx16 hx17 hx18 hx19 hx21 hx22 hx23 hx24 hx26 hx27 hx28 hx29 => by
  have h := kl39 (k := k) (x0 := x0) (x1 := x1) (x2 := x2) (x3 := x3) (x4 := x4) (x5 := x5) (x6 := x6) (x7 := x7) (x8 := x8) (x9 := x9) (x10 := x10) (x11 := x11) (x12 := x12) (x13 := x13) (x14 := x14) (x15 := x15) (x16 := x16) (x17 := x17) (x18 := x18) (x19 := x19) (x20 := x20) (x21 := x21) (x22 := x22) (x23 := x23) (x24 := x24) (x25 := x25) (x26 := x26) (x27 := x27) (x28 := x28) (x29 := x29) hx0 hx1 hx3 hx4 hx5 hx7 hx8 hx9 hx11 hx12 hx13 hx14 hx16 hx17 hx18 hx19 hx21 hx22 hx23 hx24 hx26 hx27 hx28 hx29
  simpa only [List.flatten_cons, List.flatten_nil, List.append_nil, List.append_assoc] using h
theorem eqk39 : ∀ {cs ds : List Value} {b : Bool} {k k' : Nat}, KL Try.prog k 39 cs → KL Try.prog k' 39 ds → (b = true ↔ cs = ds) → Bin Try.prog .eql 39 (.agg cs.toArray) (.agg ds.toArray) (.bool b) ∧ Bin Try.prog .neq 39 (.agg cs.toArray) (.agg ds.toArray) (.bool (!b)) := fun h1 h2 hb => bins_key (m := 6) (by kernel_rfl) rfl (by kernel_rfl) (by rw [Try.underlying39]) h1 h2 hb
set_option maxRecDepth 20000 in
set_option maxHeartbeats 2000000 in
theorem hget_short (u : Value) (ls : List (List UInt8)) (lc : Nat) (w : World) (hr_ls : (rd u 64 ls.length lc (ls.flatMap bv)).holds w) (ho_ls : ∀ x, x ∈ ls → x.length = 64) (hlo : ls.length < 8) : Calls Try.prog 14 #[u] w fun e w' => e = .returned (.tuple #[.agg ([[.int .i64 zH.m], [.int .i64 zH.r], [.bool zH.v0.1], [.int .u64 ((zH.v0.2.1 : Nat) : Int)], bv zH.v0.2.2.1, bv zH.v0.2.2.2, [.bool zH.v1.1], [.int .u64 ((zH.v1.2.1 : Nat) : Int)], bv zH.v1.2.2.1, bv zH.v1.2.2.2, [.bool zH.s0.1], [.int .i64 zH.s0.2.1], bv zH.s0.2.2.1, bv zH.s0.2.2.2.1, bv zH.s0.2.2.2.2, [.bool zH.s1.1], [.int .i64 zH.s1.2.1], bv zH.s1.2.2.1, bv zH.s1.2.2.2.1, bv zH.s1.2.2.2.2, [.bool zH.s2.1], [.int .i64 zH.s2.2.1], bv zH.s2.2.2.1, bv zH.s2.2.2.2.1, bv zH.s2.2.2.2.2, [.bool zH.s3.1], [.int .i64 zH.s3.2.1], bv zH.s3.2.2.1, bv zH.s3.2.2.2.1, bv zH.s3.2.2.2.2] : List (List Value)).flatten.toArray, .int .i64 4]) ∧ Mem w [] w' [] := by
  have hfl := flats_len ho_ls
  have hM : Mem w [] w [rd u 64 ls.length lc (ls.flatMap bv)] := Mem.startR w (fun g hg => by
    simp only [List.mem_cons, List.not_mem_nil, or_false] at hg
    rcases hg with rfl
    · exact ⟨hr_ls, rfl⟩)
  refine f_enter 34 Try.func14 rfl rfl rfl ?_
  intro a hE
  replace hE : Env a 34 [(0, _)] := hE
  refine wp_seq_k (fun K1 hK1 => ?_)
  refine wp_plain [false, true] rfl rfl ?_
  refine s_alloc [1, 1, 1, 1, 32, 32, 1, 1, 32, 32, 1, 1, 16, 32, 32, 1, 1, 16, 32, 32, 1, 1, 16, 32, 32, 1, 1, 16, 32, 32] hE hM zeroL39 rfl rfl ?_; clear hE a; intro a b2 w1 hE hM'
  clear hM; have hM := hM'; clear hM'
  refine s_assign hE rfl rfl ?_; clear hE a; intro a hE
  refine q_nil ?_
  refine hK1 _ _ ?_
  refine wp_seq_k (fun K2 hK2 => ?_)
  refine wp_plain [true, false, true] rfl rfl ?_
  refine s_move hE rfl rfl ?_; clear hE a; intro a hE
  refine s_call hE rfl Try.call16 (hbytes_c _ ls _ _ (hM.get 1 rfl) ho_ls (by first | omega | assumption | (simp; done) | (simp; omega) | decide)) rfl ?_
  rintro e w2 ⟨v7, rfl, hN⟩
  refine ⟨_, rfl, trivial, ?_⟩; clear hE a; intro a hE
  replace hM : Mem _ _ w2 [_, _, _] := hM.call0 hN ⟨rfl, trivial⟩; clear hN
  refine s_assign hE rfl rfl ?_; clear hE a; intro a hE
  refine q_nil ?_
  replace hE : Env a 34 [(0, _), (2, _), (3, _), (4, _)] := hE.sel [0, 2, 3, 4] rfl
  refine hK2 _ _ ?_
  refine wp_seq_k (fun K3 hK3 => ?_)
  refine wp_plain [true, false, false, false, false] rfl rfl ?_
  refine s_move hE rfl rfl ?_; clear hE a; intro a hE
  obtain ⟨cq1, hq1⟩ := own_rd (hM.get 0 rfl)
  refine s_call hE rfl Try.call28 (open_c ls.flatten _ _ _ hq1 (by first | omega | (simp; done) | (simp; omega))) rfl ?_
  rintro e w3 ⟨tb9, bb9, rfl, hbb9, hN⟩
  refine ⟨_, rfl, trivial, ?_⟩; clear hE a; intro a hE
  replace hM : Mem _ _ w3 [_, _, _, _] := hM.callN hN (fun e he x hx => by rw [List.mem_singleton.1 he] at hx; exact hbb9 x hx); clear hN
  refine s_call hE rfl Try.call27 (hread_l tb9 bb9 ls.flatten false _ (hM.get 0 rfl) (by omega)) rfl ?_
  rintro e w4 ⟨hx, blx, tnx, hxk, hblx, rfl, hN⟩
  refine ⟨_, rfl, trivial, ?_⟩; clear hE a; intro a hE
  replace hM : Mem _ _ w4 [_, _, _, _] := hM.call1 hN (fun f hf x hx => by rw [List.mem_singleton.1 hf] at hx; exact .inl hx); clear hN
  refine s_alloc [1, 1, 1, 1, 32, 32, 1, 1, 32, 32, 1, 1, 16, 32, 32, 1, 1, 16, 32, 32, 1, 1, 16, 32, 32, 1, 1, 16, 32, 32] hE hM zeroL39 rfl rfl ?_; clear hE a; intro a b5 w5 hE hM'
  clear hM; have hM := hM'; clear hM'
  have hsl40_4 : hx.v0.2.2.1.length = 32 := hxk.v0.2.1
  have hsl40_5 : hx.v0.2.2.2.length = 32 := hxk.v0.2.2
  have hsl40_8 : hx.v1.2.2.1.length = 32 := hxk.v1.2.1
  have hsl40_9 : hx.v1.2.2.2.length = 32 := hxk.v1.2.2
  have hsl40_12 : hx.s0.2.2.1.length = 16 := hxk.s0.2.1
  have hsl40_13 : hx.s0.2.2.2.1.length = 32 := hxk.s0.2.2.1
  have hsl40_14 : hx.s0.2.2.2.2.length = 32 := hxk.s0.2.2.2
  have hsl40_17 : hx.s1.2.2.1.length = 16 := hxk.s1.2.1
  have hsl40_18 : hx.s1.2.2.2.1.length = 32 := hxk.s1.2.2.1
  have hsl40_19 : hx.s1.2.2.2.2.length = 32 := hxk.s1.2.2.2
  have hsl40_22 : hx.s2.2.2.1.length = 16 := hxk.s2.2.1
  have hsl40_23 : hx.s2.2.2.2.1.length = 32 := hxk.s2.2.2.1
  have hsl40_24 : hx.s2.2.2.2.2.length = 32 := hxk.s2.2.2.2
  have hsl40_27 : hx.s3.2.2.1.length = 16 := hxk.s3.2.1
  have hsl40_28 : hx.s3.2.2.2.1.length = 32 := hxk.s3.2.2.1
  have hsl40_29 : hx.s3.2.2.2.2.length = 32 := hxk.s3.2.2.2
  refine s_storeSegs 0 30 (vss := [[.int .i64 hx.m], [.int .i64 hx.r], [.bool hx.v0.1], [.int .u64 ((hx.v0.2.1 : Nat) : Int)], bv hx.v0.2.2.1, bv hx.v0.2.2.2, [.bool hx.v1.1], [.int .u64 ((hx.v1.2.1 : Nat) : Int)], bv hx.v1.2.2.1, bv hx.v1.2.2.2, [.bool hx.s0.1], [.int .i64 hx.s0.2.1], bv hx.s0.2.2.1, bv hx.s0.2.2.2.1, bv hx.s0.2.2.2.2, [.bool hx.s1.1], [.int .i64 hx.s1.2.1], bv hx.s1.2.2.1, bv hx.s1.2.2.2.1, bv hx.s1.2.2.2.2, [.bool hx.s2.1], [.int .i64 hx.s2.2.1], bv hx.s2.2.2.1, bv hx.s2.2.2.2.1, bv hx.s2.2.2.2.2, [.bool hx.s3.1], [.int .i64 hx.s3.2.1], bv hx.s3.2.2.1, bv hx.s3.2.2.2.1, bv hx.s3.2.2.2.2]) hE rfl rfl hM rfl sz39 (by simp only [List.take_succ_cons, List.take_zero, List.drop_zero, List.drop_succ_cons]; simp only [List.map_cons, List.map_nil, bv_length, List.length_cons, List.length_nil, List.length_replicate, hsl40_4, hsl40_5, hsl40_8, hsl40_9, hsl40_12, hsl40_13, hsl40_14, hsl40_17, hsl40_18, hsl40_19, hsl40_22, hsl40_23, hsl40_24, hsl40_27, hsl40_28, hsl40_29]) (by decide) rfl (one_fl ⟨one1 rfl, one1 rfl, one1 rfl, one1 rfl, bv_one _, bv_one _, one1 rfl, one1 rfl, bv_one _, bv_one _, one1 rfl, one1 rfl, bv_one _, bv_one _, bv_one _, one1 rfl, one1 rfl, bv_one _, bv_one _, bv_one _, one1 rfl, one1 rfl, bv_one _, bv_one _, bv_one _, one1 rfl, one1 rfl, bv_one _, bv_one _, bv_one _, trivial⟩) rfl (by intro X h; cases h) ?_; intro w6 hM'; clear hM; have hM := hM'; clear hM'
  try simp only [List.take_zero, List.take_succ_cons, List.drop_zero, List.drop_succ_cons, List.take_nil, List.drop_nil, List.nil_append, List.append_nil, List.cons_append] at hM
  refine q_nil ?_
  replace hE : Env a 34 [(0, _), (2, _), (3, _), (4, _), (5, _)] := hE.sel [0, 2, 3, 4, 5] rfl
  refine hK3 _ _ ?_
  refine wp_seq_k (fun K4 hK4 => ?_)
  refine wp_seq_k (fun K5 hK5 => ?_)
  refine wp_drawnM hM (by kernel_rfl) (fun _ => False) [(0, true), (1, true), (2, true), (3, true), (4, true), (5, false), (6, true), (7, true), (8, true), (9, true), (14, true), (15, true), (10, false), (11, false), (12, false), (13, true), (16, true), (17, true)] [(5, [(6, 5), (7, 6), (8, 5), (9, 8), (14, 8), (15, 8), (10, 8), (11, 8), (12, 8), (13, 8), (16, 8), (17, 8)]), (10, [(11, 10), (12, 11), (13, 12), (16, 13), (17, 16)]), (11, [(12, 11), (13, 12), (16, 13), (17, 16)]), (12, [(13, 12), (16, 13), (17, 16)])] (by kernel_rfl) rfl ?_
  intro w7 hM' hww7; clear hM; have hM := hM'; clear hM'
  refine s_move hE rfl rfl ?_; clear hE a; intro a hE
  refine s_len hE rfl Try.underlying40 (rd_slice (hM.get 4 rfl)) rfl ?_; clear hE a; intro a hE
  refine s_bin hE rfl rfl bin_neq rfl ?_; clear hE a; intro a hE
  refine s_move hE rfl rfl ?_; clear hE a; intro a hE
  replace hE := hE.cast 14 rfl (show _ = Value.bool true from (congrArg Value.bool (by first | rfl | (show (!decide _) = true; rw [decide_eq_false (by omega)]; rfl))))
  refine g_no (b := true) hE rfl rfl rfl ?_; clear hE a; intro a hE
  refine g_no (b := true) hE rfl rfl rfl ?_; clear hE a; intro a hE
  refine g_no (b := true) hE rfl rfl rfl ?_; clear hE a; intro a hE
  refine s_pickt hE rfl rfl rfl ?_; clear hE a; intro a hE
  refine s_move hE rfl rfl ?_; clear hE a; intro a hE
  refine g_no (b := true) hE rfl rfl rfl ?_; clear hE a; intro a hE
  refine g_no (b := true) hE rfl rfl rfl ?_; clear hE a; intro a hE
  refine g_no (b := true) hE rfl rfl rfl ?_; clear hE a; intro a hE
  refine g_no (b := true) hE rfl rfl rfl ?_; clear hE a; intro a hE
  refine g_no (b := true) hE rfl rfl rfl ?_; clear hE a; intro a hE
  refine g_no (b := true) hE rfl rfl rfl ?_; clear hE a; intro a hE
  refine g_no (b := true) hE rfl rfl rfl ?_; clear hE a; intro a hE
  refine g_no (b := true) hE rfl rfl rfl ?_; clear hE a; intro a hE
  refine s_pickt hE rfl rfl rfl ?_; clear hE a; intro a hE
  refine q_nil ?_
  replace hE : Env a 34 [(0, _), (2, _), (3, _), (4, _), (5, _), (28, _)] := hE.sel [0, 2, 3, 4, 5, 28] rfl
  refine hK5 _ _ ?_
  refine wp_cond_true (hE.eval rfl) ?_
  refine wp_seq_k (fun K6 hK6 => ?_)
  refine wp_plain [true, false, true] rfl rfl ?_
  refine s_buildS [] hE rfl zero39 (by kernel_rfl) fpl39 (by first | (simp [PartsOk, Value.cells]; done) | (simp [PartsOk, Value.cells]; omega)) rfl ?_; clear hE a; intro a hE
  replace hE := hE.cast 29 rfl (show _ = Value.agg ([[.int .i64 0], [.int .i64 0], [.bool false], [.int .u64 0], bv (List.replicate 32 (0 : UInt8)), bv (List.replicate 32 (0 : UInt8)), [.bool false], [.int .u64 0], bv (List.replicate 32 (0 : UInt8)), bv (List.replicate 32 (0 : UInt8)), [.bool false], [.int .i64 0], bv (List.replicate 16 (0 : UInt8)), bv (List.replicate 32 (0 : UInt8)), bv (List.replicate 32 (0 : UInt8)), [.bool false], [.int .i64 0], bv (List.replicate 16 (0 : UInt8)), bv (List.replicate 32 (0 : UInt8)), bv (List.replicate 32 (0 : UInt8)), [.bool false], [.int .i64 0], bv (List.replicate 16 (0 : UInt8)), bv (List.replicate 32 (0 : UInt8)), bv (List.replicate 32 (0 : UInt8)), [.bool false], [.int .i64 0], bv (List.replicate 16 (0 : UInt8)), bv (List.replicate 32 (0 : UInt8)), bv (List.replicate 32 (0 : UInt8))] : List (List Value)).flatten.toArray from (by first | rfl | simp [setAll] | (simp only [setAll, List.set_cons_zero, List.set_cons_succ, List.flatten_cons, List.flatten_nil, List.append_nil, List.append_assoc, List.replicate_succ, List.replicate_zero])))
  have hsl92_4 : (List.replicate 32 (0 : UInt8)).length = 32 := List.length_replicate
  have hsl92_5 : (List.replicate 32 (0 : UInt8)).length = 32 := List.length_replicate
  have hsl92_8 : (List.replicate 32 (0 : UInt8)).length = 32 := List.length_replicate
  have hsl92_9 : (List.replicate 32 (0 : UInt8)).length = 32 := List.length_replicate
  have hsl92_12 : (List.replicate 16 (0 : UInt8)).length = 16 := List.length_replicate
  have hsl92_13 : (List.replicate 32 (0 : UInt8)).length = 32 := List.length_replicate
  have hsl92_14 : (List.replicate 32 (0 : UInt8)).length = 32 := List.length_replicate
  have hsl92_17 : (List.replicate 16 (0 : UInt8)).length = 16 := List.length_replicate
  have hsl92_18 : (List.replicate 32 (0 : UInt8)).length = 32 := List.length_replicate
  have hsl92_19 : (List.replicate 32 (0 : UInt8)).length = 32 := List.length_replicate
  have hsl92_22 : (List.replicate 16 (0 : UInt8)).length = 16 := List.length_replicate
  have hsl92_23 : (List.replicate 32 (0 : UInt8)).length = 32 := List.length_replicate
  have hsl92_24 : (List.replicate 32 (0 : UInt8)).length = 32 := List.length_replicate
  have hsl92_27 : (List.replicate 16 (0 : UInt8)).length = 16 := List.length_replicate
  have hsl92_28 : (List.replicate 32 (0 : UInt8)).length = 32 := List.length_replicate
  have hsl92_29 : (List.replicate 32 (0 : UInt8)).length = 32 := List.length_replicate
  replace hM : Mem _ _ w7 [_, _, _, _, _] := hM.pick [3, 0, 1, 2, 4] rfl
  refine s_storeSegs 0 30 (vss := [[.int .i64 0], [.int .i64 0], [.bool false], [.int .u64 0], bv (List.replicate 32 (0 : UInt8)), bv (List.replicate 32 (0 : UInt8)), [.bool false], [.int .u64 0], bv (List.replicate 32 (0 : UInt8)), bv (List.replicate 32 (0 : UInt8)), [.bool false], [.int .i64 0], bv (List.replicate 16 (0 : UInt8)), bv (List.replicate 32 (0 : UInt8)), bv (List.replicate 32 (0 : UInt8)), [.bool false], [.int .i64 0], bv (List.replicate 16 (0 : UInt8)), bv (List.replicate 32 (0 : UInt8)), bv (List.replicate 32 (0 : UInt8)), [.bool false], [.int .i64 0], bv (List.replicate 16 (0 : UInt8)), bv (List.replicate 32 (0 : UInt8)), bv (List.replicate 32 (0 : UInt8)), [.bool false], [.int .i64 0], bv (List.replicate 16 (0 : UInt8)), bv (List.replicate 32 (0 : UInt8)), bv (List.replicate 32 (0 : UInt8))]) hE rfl rfl hM rfl sz39 (by simp only [List.take_succ_cons, List.take_zero, List.drop_zero, List.drop_succ_cons]; simp only [List.map_cons, List.map_nil, bv_length, List.length_cons, List.length_nil, List.length_replicate, hsl92_4, hsl92_5, hsl92_8, hsl92_9, hsl92_12, hsl92_13, hsl92_14, hsl92_17, hsl92_18, hsl92_19, hsl92_22, hsl92_23, hsl92_24, hsl92_27, hsl92_28, hsl92_29]) (by decide) rfl (one_fl ⟨one1 rfl, one1 rfl, one1 rfl, one1 rfl, bv_one _, bv_one _, one1 rfl, one1 rfl, bv_one _, bv_one _, one1 rfl, one1 rfl, bv_one _, bv_one _, bv_one _, one1 rfl, one1 rfl, bv_one _, bv_one _, bv_one _, one1 rfl, one1 rfl, bv_one _, bv_one _, bv_one _, one1 rfl, one1 rfl, bv_one _, bv_one _, bv_one _, trivial⟩) rfl (by intro X h; cases h) ?_; intro w8 hM'; clear hM; have hM := hM'; clear hM'
  try simp only [List.take_zero, List.take_succ_cons, List.drop_zero, List.drop_succ_cons, List.take_nil, List.drop_nil, List.nil_append, List.append_nil, List.cons_append] at hM
  refine s_assign hE rfl rfl ?_; clear hE a; intro a hE
  refine q_nil ?_
  replace hE : Env a 34 [(0, _), (2, _), (3, _), (4, _), (5, _), (28, _)] := hE.sel [0, 2, 3, 4, 5, 28] rfl
  refine hK6 _ _ ?_
  refine wp_ret ?_
  refine q_then_r ?_
  refine f_ret2 hE rfl (res_cellN rfl (hM.get 0 rfl) row39 rfl) rfl ?_
  exact ⟨(by first | rfl | (simp [zH, zV, zS]; done)), hM.pick [] rfl⟩
theorem hget_a (u : Value) (ls : List (List UInt8)) (lc : Nat) (w : World) (hr : (rd u 64 ls.length lc (ls.flatMap bv)).holds w) (ho : ∀ x, x ∈ ls → x.length = 64) (hx : ls.length ≤ 100) : Calls Try.prog 14 #[u] w fun e w' => e = .returned (.tuple #[.agg ([[.int .i64 ((getHH ls).m)], [.int .i64 ((getHH ls).r)], [.bool ((getHH ls).v0.1)], [.int .u64 (((getHH ls).v0.2.1 : Nat) : Int)], bv ((getHH ls).v0.2.2.1), bv ((getHH ls).v0.2.2.2), [.bool ((getHH ls).v1.1)], [.int .u64 (((getHH ls).v1.2.1 : Nat) : Int)], bv ((getHH ls).v1.2.2.1), bv ((getHH ls).v1.2.2.2), [.bool ((getHH ls).s0.1)], [.int .i64 ((getHH ls).s0.2.1)], bv ((getHH ls).s0.2.2.1), bv ((getHH ls).s0.2.2.2.1), bv ((getHH ls).s0.2.2.2.2), [.bool ((getHH ls).s1.1)], [.int .i64 ((getHH ls).s1.2.1)], bv ((getHH ls).s1.2.2.1), bv ((getHH ls).s1.2.2.2.1), bv ((getHH ls).s1.2.2.2.2), [.bool ((getHH ls).s2.1)], [.int .i64 ((getHH ls).s2.2.1)], bv ((getHH ls).s2.2.2.1), bv ((getHH ls).s2.2.2.2.1), bv ((getHH ls).s2.2.2.2.2), [.bool ((getHH ls).s3.1)], [.int .i64 ((getHH ls).s3.2.1)], bv ((getHH ls).s3.2.2.1), bv ((getHH ls).s3.2.2.2.1), bv ((getHH ls).s3.2.2.2.2)] : List (List Value)).flatten.toArray, .int .i64 ((getEH ls : Nat) : Int)]) ∧ Mem w [] w' [] := by
  cases hg : getOkH ls
  · obtain ⟨e1, e2⟩ := getHL_bad hg
    rw [e1, e2]
    by_cases hl : 8 ≤ ls.length
    · exact hget_bad u ls lc w hr ho hg hl hx
    · exact hget_short u ls lc w hr ho (by omega)
  · cases hlg : longB (readH ls.flatten)
    · obtain ⟨e1, e2⟩ := getHL_ok hg hlg
      rw [e1, e2]
      exact hget_ok u ls lc w hr ho hg hlg
    · obtain ⟨e1, e2⟩ := getHL_long hg hlg
      rw [e1, e2]
      exact hget_long u ls lc w hr ho hg hlg
def plainH : Hd := ⟨4, 1, zV, zV, zS, zS, zS, zS⟩
theorem plainH_ok : OkHd plainH := ⟨by unfold In64; decide, by unfold In64; decide, zH_ok.v0, zH_ok.v1, zH_ok.s0, zH_ok.s1, zH_ok.s2, zH_ok.s3⟩
set_option maxRecDepth 20000 in
theorem plain24_c  (w : World)  : Calls Try.prog 18 #[] w fun e w' => e = .returned (.agg ([[.int .i64 plainH.m], [.int .i64 plainH.r], [.bool plainH.v0.1], [.int .u64 ((plainH.v0.2.1 : Nat) : Int)], bv plainH.v0.2.2.1, bv plainH.v0.2.2.2, [.bool plainH.v1.1], [.int .u64 ((plainH.v1.2.1 : Nat) : Int)], bv plainH.v1.2.2.1, bv plainH.v1.2.2.2, [.bool plainH.s0.1], [.int .i64 plainH.s0.2.1], bv plainH.s0.2.2.1, bv plainH.s0.2.2.2.1, bv plainH.s0.2.2.2.2, [.bool plainH.s1.1], [.int .i64 plainH.s1.2.1], bv plainH.s1.2.2.1, bv plainH.s1.2.2.2.1, bv plainH.s1.2.2.2.2, [.bool plainH.s2.1], [.int .i64 plainH.s2.2.1], bv plainH.s2.2.2.1, bv plainH.s2.2.2.2.1, bv plainH.s2.2.2.2.2, [.bool plainH.s3.1], [.int .i64 plainH.s3.2.1], bv plainH.s3.2.2.1, bv plainH.s3.2.2.2.1, bv plainH.s3.2.2.2.2] : List (List Value)).flatten.toArray) ∧ Mem w [] w' [] := by
  have hM := Mem.start0 w
  refine f_enter 3 Try.func18 rfl rfl rfl ?_
  intro a hE
  replace hE : Env a 3 [] := hE
  refine wp_seq_k (fun K1 hK1 => ?_)
  refine wp_plain [false] rfl rfl ?_
  refine s_alloc [1, 1, 1, 1, 32, 32, 1, 1, 32, 32, 1, 1, 16, 32, 32, 1, 1, 16, 32, 32, 1, 1, 16, 32, 32, 1, 1, 16, 32, 32] hE hM zeroL39 rfl rfl ?_; clear hE a; intro a b0 w1 hE hM'
  clear hM; have hM := hM'; clear hM'
  refine q_nil ?_
  refine hK1 _ _ ?_
  refine wp_seq_k (fun K2 hK2 => ?_)
  refine wp_plain [true, true, false] rfl rfl ?_
  refine s_buildS [[.int .i64 4], [.int .i64 1]] hE rfl zero23 (by kernel_rfl) fpl23 (by first | (simp [PartsOk, Value.cells]; done) | (simp [PartsOk, Value.cells]; omega)) rfl ?_; clear hE a; intro a hE
  replace hE := hE.cast 1 rfl (show _ = Value.agg ([[.int .i64 4], [.int .i64 1]] : List (List Value)).flatten.toArray from (by first | rfl | simp [setAll] | (simp only [setAll, List.set_cons_zero, List.set_cons_succ, List.flatten_cons, List.flatten_nil, List.append_nil, List.append_assoc, List.replicate_succ, List.replicate_zero])))
  refine s_buildS [([[.int .i64 4], [.int .i64 1]] : List (List Value)).flatten] hE rfl zero39 (by kernel_rfl) fpl39 (by first | (simp [PartsOk, Value.cells]; done) | (simp [PartsOk, Value.cells]; omega)) rfl ?_; clear hE a; intro a hE
  replace hE := hE.cast 2 rfl (show _ = Value.agg ([[.int .i64 4], [.int .i64 1], [.bool false], [.int .u64 0], bv (List.replicate 32 (0 : UInt8)), bv (List.replicate 32 (0 : UInt8)), [.bool false], [.int .u64 0], bv (List.replicate 32 (0 : UInt8)), bv (List.replicate 32 (0 : UInt8)), [.bool false], [.int .i64 0], bv (List.replicate 16 (0 : UInt8)), bv (List.replicate 32 (0 : UInt8)), bv (List.replicate 32 (0 : UInt8)), [.bool false], [.int .i64 0], bv (List.replicate 16 (0 : UInt8)), bv (List.replicate 32 (0 : UInt8)), bv (List.replicate 32 (0 : UInt8)), [.bool false], [.int .i64 0], bv (List.replicate 16 (0 : UInt8)), bv (List.replicate 32 (0 : UInt8)), bv (List.replicate 32 (0 : UInt8)), [.bool false], [.int .i64 0], bv (List.replicate 16 (0 : UInt8)), bv (List.replicate 32 (0 : UInt8)), bv (List.replicate 32 (0 : UInt8))] : List (List Value)).flatten.toArray from (by first | rfl | simp [setAll] | (simp only [setAll, List.set_cons_zero, List.set_cons_succ, List.flatten_cons, List.flatten_nil, List.append_nil, List.append_assoc, List.replicate_succ, List.replicate_zero])))
  have hsl16_4 : (List.replicate 32 (0 : UInt8)).length = 32 := List.length_replicate
  have hsl16_5 : (List.replicate 32 (0 : UInt8)).length = 32 := List.length_replicate
  have hsl16_8 : (List.replicate 32 (0 : UInt8)).length = 32 := List.length_replicate
  have hsl16_9 : (List.replicate 32 (0 : UInt8)).length = 32 := List.length_replicate
  have hsl16_12 : (List.replicate 16 (0 : UInt8)).length = 16 := List.length_replicate
  have hsl16_13 : (List.replicate 32 (0 : UInt8)).length = 32 := List.length_replicate
  have hsl16_14 : (List.replicate 32 (0 : UInt8)).length = 32 := List.length_replicate
  have hsl16_17 : (List.replicate 16 (0 : UInt8)).length = 16 := List.length_replicate
  have hsl16_18 : (List.replicate 32 (0 : UInt8)).length = 32 := List.length_replicate
  have hsl16_19 : (List.replicate 32 (0 : UInt8)).length = 32 := List.length_replicate
  have hsl16_22 : (List.replicate 16 (0 : UInt8)).length = 16 := List.length_replicate
  have hsl16_23 : (List.replicate 32 (0 : UInt8)).length = 32 := List.length_replicate
  have hsl16_24 : (List.replicate 32 (0 : UInt8)).length = 32 := List.length_replicate
  have hsl16_27 : (List.replicate 16 (0 : UInt8)).length = 16 := List.length_replicate
  have hsl16_28 : (List.replicate 32 (0 : UInt8)).length = 32 := List.length_replicate
  have hsl16_29 : (List.replicate 32 (0 : UInt8)).length = 32 := List.length_replicate
  refine s_storeSegs 0 30 (vss := [[.int .i64 4], [.int .i64 1], [.bool false], [.int .u64 0], bv (List.replicate 32 (0 : UInt8)), bv (List.replicate 32 (0 : UInt8)), [.bool false], [.int .u64 0], bv (List.replicate 32 (0 : UInt8)), bv (List.replicate 32 (0 : UInt8)), [.bool false], [.int .i64 0], bv (List.replicate 16 (0 : UInt8)), bv (List.replicate 32 (0 : UInt8)), bv (List.replicate 32 (0 : UInt8)), [.bool false], [.int .i64 0], bv (List.replicate 16 (0 : UInt8)), bv (List.replicate 32 (0 : UInt8)), bv (List.replicate 32 (0 : UInt8)), [.bool false], [.int .i64 0], bv (List.replicate 16 (0 : UInt8)), bv (List.replicate 32 (0 : UInt8)), bv (List.replicate 32 (0 : UInt8)), [.bool false], [.int .i64 0], bv (List.replicate 16 (0 : UInt8)), bv (List.replicate 32 (0 : UInt8)), bv (List.replicate 32 (0 : UInt8))]) hE rfl rfl hM rfl sz39 (by simp only [List.take_succ_cons, List.take_zero, List.drop_zero, List.drop_succ_cons]; simp only [List.map_cons, List.map_nil, bv_length, List.length_cons, List.length_nil, List.length_replicate, hsl16_4, hsl16_5, hsl16_8, hsl16_9, hsl16_12, hsl16_13, hsl16_14, hsl16_17, hsl16_18, hsl16_19, hsl16_22, hsl16_23, hsl16_24, hsl16_27, hsl16_28, hsl16_29]) (by decide) rfl (one_fl ⟨one1 rfl, one1 rfl, one1 rfl, one1 rfl, bv_one _, bv_one _, one1 rfl, one1 rfl, bv_one _, bv_one _, one1 rfl, one1 rfl, bv_one _, bv_one _, bv_one _, one1 rfl, one1 rfl, bv_one _, bv_one _, bv_one _, one1 rfl, one1 rfl, bv_one _, bv_one _, bv_one _, one1 rfl, one1 rfl, bv_one _, bv_one _, bv_one _, trivial⟩) rfl (by intro X h; cases h) ?_; intro w2 hM'; clear hM; have hM := hM'; clear hM'
  try simp only [List.take_zero, List.take_succ_cons, List.drop_zero, List.drop_succ_cons, List.take_nil, List.drop_nil, List.nil_append, List.append_nil, List.cons_append] at hM
  refine q_nil ?_
  replace hE : Env a 3 [(0, _)] := hE.sel [0] rfl
  refine hK2 _ _ ?_
  refine wp_ret ?_
  refine f_ret1 hE rfl (res_cellN rfl (hM.get 0 rfl) row39 rfl) ?_
  exact ⟨(by first | rfl | (simp [plainH, zV, zS]; done)), hM.pick [] rfl⟩
set_option maxRecDepth 20000 in
theorem works24_c  (w : World)  : Calls Try.prog 13 #[] w fun e w' => e = .returned (.bool true) ∧ Mem w [] w' [] := by
  have hM := Mem.start0 w
  refine f_enter 45 Try.func13 rfl rfl rfl ?_
  intro a hE
  replace hE : Env a 45 [] := hE
  refine wp_seq_k (fun K1 hK1 => ?_)
  refine wp_plain [true] rfl rfl ?_
  refine s_assign hE rfl rfl ?_; clear hE a; intro a hE
  refine q_nil ?_
  refine hK1 _ _ ?_
  refine wp_seq_k (fun K2 hK2 => ?_)
  refine wp_plain [false, false, true, true, true, true, true] rfl rfl ?_
  refine s_call hE rfl Try.call18 (plain24_c  _ ) rfl ?_
  rintro e w1 ⟨rfl, hN⟩
  refine ⟨_, rfl, trivial, ?_⟩; clear hE a; intro a hE
  replace hM : Mem _ _ w1 [] := hM.call0 hN trivial; clear hN
  refine s_call hE rfl Try.call8 (hput_a plainH _ plainH_ok ) rfl ?_
  rintro e w2 ⟨v8_0, rfl, hN⟩
  refine ⟨_, rfl, trivial, ?_⟩; clear hE a; intro a hE
  replace hM : Mem _ _ w2 [_] := hM.call0 hN ⟨rfl, trivial⟩; clear hN
  refine s_move hE rfl rfl ?_; clear hE a; intro a hE
  refine s_extract hE rfl rfl rfl ?_; clear hE a; intro a hE
  refine s_extract hE rfl rfl rfl ?_; clear hE a; intro a hE
  refine s_assign hE rfl rfl ?_; clear hE a; intro a hE
  refine s_assign hE rfl rfl ?_; clear hE a; intro a hE
  refine q_nil ?_
  replace hE : Env a 45 [(0, _), (1, _), (2, _)] := hE.sel [0, 1, 2] rfl
  refine hK2 _ _ ?_
  refine wp_seq_k (fun K3 hK3 => ?_)
  refine wp_plain [true, false, true, true, true, false, false, true] rfl rfl ?_
  refine s_move hE rfl rfl ?_; clear hE a; intro a hE
  obtain ⟨cq1, hq1⟩ := own_rd (hM.get 0 rfl)
  refine s_call hE rfl Try.call14 (hget_a _ (putH plainH) _ _ hq1 (putH_ok plainH_ok) (by first | omega | (simp; omega) | decide +kernel)) rfl ?_
  rintro e w3 ⟨rfl, hN⟩
  refine ⟨_, rfl, trivial, ?_⟩; clear hE a; intro a hE
  replace hM : Mem _ _ w3 [_] := hM.call0 hN trivial; clear hN
  refine s_move hE rfl rfl ?_; clear hE a; intro a hE
  refine s_extract hE rfl rfl rfl ?_; clear hE a; intro a hE
  refine s_extract hE rfl rfl rfl ?_; clear hE a; intro a hE
  refine s_alloc [1, 1, 1, 1, 32, 32, 1, 1, 32, 32, 1, 1, 16, 32, 32, 1, 1, 16, 32, 32, 1, 1, 16, 32, 32, 1, 1, 16, 32, 32] hE hM zeroL39 rfl rfl ?_; clear hE a; intro a b3 w4 hE hM'
  clear hM; have hM := hM'; clear hM'
  have hsl40_4 : ((getHH (putH plainH)).v0.2.2.1).length = 32 := (getHH_ok (putH_ok plainH_ok)).v0.2.1
  have hsl40_5 : ((getHH (putH plainH)).v0.2.2.2).length = 32 := (getHH_ok (putH_ok plainH_ok)).v0.2.2
  have hsl40_8 : ((getHH (putH plainH)).v1.2.2.1).length = 32 := (getHH_ok (putH_ok plainH_ok)).v1.2.1
  have hsl40_9 : ((getHH (putH plainH)).v1.2.2.2).length = 32 := (getHH_ok (putH_ok plainH_ok)).v1.2.2
  have hsl40_12 : ((getHH (putH plainH)).s0.2.2.1).length = 16 := (getHH_ok (putH_ok plainH_ok)).s0.2.1
  have hsl40_13 : ((getHH (putH plainH)).s0.2.2.2.1).length = 32 := (getHH_ok (putH_ok plainH_ok)).s0.2.2.1
  have hsl40_14 : ((getHH (putH plainH)).s0.2.2.2.2).length = 32 := (getHH_ok (putH_ok plainH_ok)).s0.2.2.2
  have hsl40_17 : ((getHH (putH plainH)).s1.2.2.1).length = 16 := (getHH_ok (putH_ok plainH_ok)).s1.2.1
  have hsl40_18 : ((getHH (putH plainH)).s1.2.2.2.1).length = 32 := (getHH_ok (putH_ok plainH_ok)).s1.2.2.1
  have hsl40_19 : ((getHH (putH plainH)).s1.2.2.2.2).length = 32 := (getHH_ok (putH_ok plainH_ok)).s1.2.2.2
  have hsl40_22 : ((getHH (putH plainH)).s2.2.2.1).length = 16 := (getHH_ok (putH_ok plainH_ok)).s2.2.1
  have hsl40_23 : ((getHH (putH plainH)).s2.2.2.2.1).length = 32 := (getHH_ok (putH_ok plainH_ok)).s2.2.2.1
  have hsl40_24 : ((getHH (putH plainH)).s2.2.2.2.2).length = 32 := (getHH_ok (putH_ok plainH_ok)).s2.2.2.2
  have hsl40_27 : ((getHH (putH plainH)).s3.2.2.1).length = 16 := (getHH_ok (putH_ok plainH_ok)).s3.2.1
  have hsl40_28 : ((getHH (putH plainH)).s3.2.2.2.1).length = 32 := (getHH_ok (putH_ok plainH_ok)).s3.2.2.1
  have hsl40_29 : ((getHH (putH plainH)).s3.2.2.2.2).length = 32 := (getHH_ok (putH_ok plainH_ok)).s3.2.2.2
  refine s_storeSegs 0 30 (vss := [[.int .i64 ((getHH (putH plainH)).m)], [.int .i64 ((getHH (putH plainH)).r)], [.bool ((getHH (putH plainH)).v0.1)], [.int .u64 (((getHH (putH plainH)).v0.2.1 : Nat) : Int)], bv ((getHH (putH plainH)).v0.2.2.1), bv ((getHH (putH plainH)).v0.2.2.2), [.bool ((getHH (putH plainH)).v1.1)], [.int .u64 (((getHH (putH plainH)).v1.2.1 : Nat) : Int)], bv ((getHH (putH plainH)).v1.2.2.1), bv ((getHH (putH plainH)).v1.2.2.2), [.bool ((getHH (putH plainH)).s0.1)], [.int .i64 ((getHH (putH plainH)).s0.2.1)], bv ((getHH (putH plainH)).s0.2.2.1), bv ((getHH (putH plainH)).s0.2.2.2.1), bv ((getHH (putH plainH)).s0.2.2.2.2), [.bool ((getHH (putH plainH)).s1.1)], [.int .i64 ((getHH (putH plainH)).s1.2.1)], bv ((getHH (putH plainH)).s1.2.2.1), bv ((getHH (putH plainH)).s1.2.2.2.1), bv ((getHH (putH plainH)).s1.2.2.2.2), [.bool ((getHH (putH plainH)).s2.1)], [.int .i64 ((getHH (putH plainH)).s2.2.1)], bv ((getHH (putH plainH)).s2.2.2.1), bv ((getHH (putH plainH)).s2.2.2.2.1), bv ((getHH (putH plainH)).s2.2.2.2.2), [.bool ((getHH (putH plainH)).s3.1)], [.int .i64 ((getHH (putH plainH)).s3.2.1)], bv ((getHH (putH plainH)).s3.2.2.1), bv ((getHH (putH plainH)).s3.2.2.2.1), bv ((getHH (putH plainH)).s3.2.2.2.2)]) hE rfl rfl hM rfl sz39 (by simp only [List.take_succ_cons, List.take_zero, List.drop_zero, List.drop_succ_cons]; simp only [List.map_cons, List.map_nil, bv_length, List.length_cons, List.length_nil, List.length_replicate, hsl40_4, hsl40_5, hsl40_8, hsl40_9, hsl40_12, hsl40_13, hsl40_14, hsl40_17, hsl40_18, hsl40_19, hsl40_22, hsl40_23, hsl40_24, hsl40_27, hsl40_28, hsl40_29]) (by decide) rfl (one_fl ⟨one1 rfl, one1 rfl, one1 rfl, one1 rfl, bv_one _, bv_one _, one1 rfl, one1 rfl, bv_one _, bv_one _, one1 rfl, one1 rfl, bv_one _, bv_one _, bv_one _, one1 rfl, one1 rfl, bv_one _, bv_one _, bv_one _, one1 rfl, one1 rfl, bv_one _, bv_one _, bv_one _, one1 rfl, one1 rfl, bv_one _, bv_one _, bv_one _, trivial⟩) rfl (by intro X h; cases h) ?_; intro w5 hM'; clear hM; have hM := hM'; clear hM'
  try simp only [List.take_zero, List.take_succ_cons, List.drop_zero, List.drop_succ_cons, List.take_nil, List.drop_nil, List.nil_append, List.append_nil, List.cons_append] at hM
  refine s_assign hE rfl rfl ?_; clear hE a; intro a hE
  refine q_nil ?_
  replace hE : Env a 45 [(0, _), (1, _), (2, _), (3, _), (4, _)] := hE.sel [0, 1, 2, 3, 4] rfl
  refine hK3 _ _ ?_
  refine wp_seq_k (fun K4 hK4 => ?_)
  refine wp_plain [true, false, true] rfl rfl ?_
  refine s_move hE rfl rfl ?_; clear hE a; intro a hE
  obtain ⟨cq2, hq2⟩ := own_rd (hM.get 1 rfl)
  refine s_call hE rfl Try.call16 (hbytes_c _ (putH plainH) _ _ hq2 (putH_ok plainH_ok) (by first | omega | assumption | (simp; done) | (simp; omega) | decide)) rfl ?_
  rintro e w6 ⟨v17, rfl, hN⟩
  refine ⟨_, rfl, trivial, ?_⟩; clear hE a; intro a hE
  replace hM : Mem _ _ w6 [_, _, _] := hM.call0 hN ⟨rfl, trivial⟩; clear hN
  refine s_assign hE rfl rfl ?_; clear hE a; intro a hE
  refine q_nil ?_
  replace hE : Env a 45 [(0, _), (1, _), (2, _), (3, _), (4, _), (5, _)] := hE.sel [0, 1, 2, 3, 4, 5] rfl
  refine hK4 _ _ ?_
  refine wp_seq_k (fun K5 hK5 => ?_)
  refine wp_drawnM hM (by kernel_rfl) (fun _ => False) [(0, true), (1, true), (2, true), (3, true), (4, true), (5, true), (6, true), (7, true), (8, true), (9, true), (10, true), (11, true), (12, true), (13, false), (14, true), (15, true), (16, true), (17, true), (18, true), (19, true), (20, true), (21, true), (22, true), (23, true), (24, true), (25, true), (26, true), (27, true)] [(13, [(14, 13), (15, 14), (16, 13), (17, 16), (18, 16), (19, 16), (20, 16), (21, 16), (22, 21), (23, 21), (24, 21), (25, 24), (26, 25), (27, 13)])] (by kernel_rfl) rfl ?_
  intro w7 hM' hww7; clear hM; have hM := hM'; clear hM'
  refine s_move hE rfl rfl ?_; clear hE a; intro a hE
  refine s_bin hE rfl rfl bin_eql rfl ?_; clear hE a; intro a hE
  refine s_move hE rfl rfl ?_; clear hE a; intro a hE
  replace hE := hE.cast 20 rfl (show _ = Value.bool true from (congrArg Value.bool (by first | (with_reducible exact decide_eq_true rfl) | decide +kernel | (simp; done))))
  refine g_yes hE rfl rfl ?_
  refine s_move hE rfl rfl ?_; clear hE a; intro a hE
  refine g_yes hE rfl rfl ?_
  refine s_bin hE rfl rfl bin_eql rfl ?_; clear hE a; intro a hE
  refine s_pickt hE rfl rfl rfl ?_; clear hE a; intro a hE
  refine s_move hE rfl rfl ?_; clear hE a; intro a hE
  replace hE := hE.cast 24 rfl (show _ = Value.bool true from (congrArg Value.bool (by first | (with_reducible exact decide_eq_true rfl) | decide +kernel | (simp; done))))
  refine g_yes hE rfl rfl ?_
  refine s_move hE rfl rfl ?_; clear hE a; intro a hE
  refine g_yes hE rfl rfl ?_
  refine s_len hE rfl Try.underlying40 (own_slice (hM.get 2 rfl)) rfl ?_; clear hE a; intro a hE
  refine g_yes hE rfl rfl ?_
  refine s_bin hE rfl rfl bin_eql rfl ?_; clear hE a; intro a hE
  refine s_pickt hE rfl rfl rfl ?_; clear hE a; intro a hE
  refine s_move hE rfl rfl ?_; clear hE a; intro a hE
  replace hE := hE.cast 29 rfl (show _ = Value.bool true from (congrArg Value.bool (by first | (with_reducible exact decide_eq_true rfl) | decide +kernel | (simp; done))))
  refine g_yes hE rfl rfl ?_
  refine s_loadN hE rfl (hM.get 1 rfl) row39 rfl (by intro X h; cases h; simp) rfl ?_; clear hE a; intro a hE
  replace hE := hE.cast 30 rfl (show _ = Value.agg ([[.int .i64 ((getHH (putH plainH)).m)], [.int .i64 ((getHH (putH plainH)).r)], [.bool ((getHH (putH plainH)).v0.1)], [.int .u64 (((getHH (putH plainH)).v0.2.1 : Nat) : Int)], bv ((getHH (putH plainH)).v0.2.2.1), bv ((getHH (putH plainH)).v0.2.2.2), [.bool ((getHH (putH plainH)).v1.1)], [.int .u64 (((getHH (putH plainH)).v1.2.1 : Nat) : Int)], bv ((getHH (putH plainH)).v1.2.2.1), bv ((getHH (putH plainH)).v1.2.2.2), [.bool ((getHH (putH plainH)).s0.1)], [.int .i64 ((getHH (putH plainH)).s0.2.1)], bv ((getHH (putH plainH)).s0.2.2.1), bv ((getHH (putH plainH)).s0.2.2.2.1), bv ((getHH (putH plainH)).s0.2.2.2.2), [.bool ((getHH (putH plainH)).s1.1)], [.int .i64 ((getHH (putH plainH)).s1.2.1)], bv ((getHH (putH plainH)).s1.2.2.1), bv ((getHH (putH plainH)).s1.2.2.2.1), bv ((getHH (putH plainH)).s1.2.2.2.2), [.bool ((getHH (putH plainH)).s2.1)], [.int .i64 ((getHH (putH plainH)).s2.2.1)], bv ((getHH (putH plainH)).s2.2.2.1), bv ((getHH (putH plainH)).s2.2.2.2.1), bv ((getHH (putH plainH)).s2.2.2.2.2), [.bool ((getHH (putH plainH)).s3.1)], [.int .i64 ((getHH (putH plainH)).s3.2.1)], bv ((getHH (putH plainH)).s3.2.2.1), bv ((getHH (putH plainH)).s3.2.2.2.1), bv ((getHH (putH plainH)).s3.2.2.2.2)] : List (List Value)).flatten.toArray from (by first | rfl | simp only [List.flatten_cons, List.flatten_nil, List.append_nil, List.append_assoc]))
  refine g_yes hE rfl rfl ?_
  refine s_call hE rfl Try.call18 (plain24_c  _ ) rfl ?_
  rintro e w8 ⟨rfl, hN⟩
  refine ⟨_, rfl, hN.sta0 _, ?_⟩; clear hE a; intro a hE
  replace hM : Mem _ _ w8 [_, _, _] := hM.call0 hN trivial; clear hN
  refine g_yes hE rfl rfl ?_
  refine s_bin hE rfl rfl ((eqk39 (b := decide ((((getHH (putH plainH)).m) : Int) = plainH.m ∧ (((getHH (putH plainH)).r) : Int) = plainH.r ∧ ((getHH (putH plainH)).v0.1) = plainH.v0.1 ∧ ((((getHH (putH plainH)).v0.2.1 : Nat) : Int) : Int) = ((plainH.v0.2.1 : Nat) : Int) ∧ ((getHH (putH plainH)).v0.2.2.1) = plainH.v0.2.2.1 ∧ ((getHH (putH plainH)).v0.2.2.2) = plainH.v0.2.2.2 ∧ ((getHH (putH plainH)).v1.1) = plainH.v1.1 ∧ ((((getHH (putH plainH)).v1.2.1 : Nat) : Int) : Int) = ((plainH.v1.2.1 : Nat) : Int) ∧ ((getHH (putH plainH)).v1.2.2.1) = plainH.v1.2.2.1 ∧ ((getHH (putH plainH)).v1.2.2.2) = plainH.v1.2.2.2 ∧ ((getHH (putH plainH)).s0.1) = plainH.s0.1 ∧ (((getHH (putH plainH)).s0.2.1) : Int) = plainH.s0.2.1 ∧ ((getHH (putH plainH)).s0.2.2.1) = plainH.s0.2.2.1 ∧ ((getHH (putH plainH)).s0.2.2.2.1) = plainH.s0.2.2.2.1 ∧ ((getHH (putH plainH)).s0.2.2.2.2) = plainH.s0.2.2.2.2 ∧ ((getHH (putH plainH)).s1.1) = plainH.s1.1 ∧ (((getHH (putH plainH)).s1.2.1) : Int) = plainH.s1.2.1 ∧ ((getHH (putH plainH)).s1.2.2.1) = plainH.s1.2.2.1 ∧ ((getHH (putH plainH)).s1.2.2.2.1) = plainH.s1.2.2.2.1 ∧ ((getHH (putH plainH)).s1.2.2.2.2) = plainH.s1.2.2.2.2 ∧ ((getHH (putH plainH)).s2.1) = plainH.s2.1 ∧ (((getHH (putH plainH)).s2.2.1) : Int) = plainH.s2.2.1 ∧ ((getHH (putH plainH)).s2.2.2.1) = plainH.s2.2.2.1 ∧ ((getHH (putH plainH)).s2.2.2.2.1) = plainH.s2.2.2.2.1 ∧ ((getHH (putH plainH)).s2.2.2.2.2) = plainH.s2.2.2.2.2 ∧ ((getHH (putH plainH)).s3.1) = plainH.s3.1 ∧ (((getHH (putH plainH)).s3.2.1) : Int) = plainH.s3.2.1 ∧ ((getHH (putH plainH)).s3.2.2.1) = plainH.s3.2.2.1 ∧ ((getHH (putH plainH)).s3.2.2.2.1) = plainH.s3.2.2.2.1 ∧ ((getHH (putH plainH)).s3.2.2.2.2) = plainH.s3.2.2.2.2)) (klL39 (k := 0) (x0 := ((getHH (putH plainH)).m)) (x1 := ((getHH (putH plainH)).r)) (x2 := (getHH (putH plainH)).v0.1) (x3 := (((getHH (putH plainH)).v0.2.1 : Nat) : Int)) (x4 := (getHH (putH plainH)).v0.2.2.1) (x5 := (getHH (putH plainH)).v0.2.2.2) (x6 := (getHH (putH plainH)).v1.1) (x7 := (((getHH (putH plainH)).v1.2.1 : Nat) : Int)) (x8 := (getHH (putH plainH)).v1.2.2.1) (x9 := (getHH (putH plainH)).v1.2.2.2) (x10 := (getHH (putH plainH)).s0.1) (x11 := ((getHH (putH plainH)).s0.2.1)) (x12 := (getHH (putH plainH)).s0.2.2.1) (x13 := (getHH (putH plainH)).s0.2.2.2.1) (x14 := (getHH (putH plainH)).s0.2.2.2.2) (x15 := (getHH (putH plainH)).s1.1) (x16 := ((getHH (putH plainH)).s1.2.1)) (x17 := (getHH (putH plainH)).s1.2.2.1) (x18 := (getHH (putH plainH)).s1.2.2.2.1) (x19 := (getHH (putH plainH)).s1.2.2.2.2) (x20 := (getHH (putH plainH)).s2.1) (x21 := ((getHH (putH plainH)).s2.2.1)) (x22 := (getHH (putH plainH)).s2.2.2.1) (x23 := (getHH (putH plainH)).s2.2.2.2.1) (x24 := (getHH (putH plainH)).s2.2.2.2.2) (x25 := (getHH (putH plainH)).s3.1) (x26 := ((getHH (putH plainH)).s3.2.1)) (x27 := (getHH (putH plainH)).s3.2.2.1) (x28 := (getHH (putH plainH)).s3.2.2.2.1) (x29 := (getHH (putH plainH)).s3.2.2.2.2) (wf_i64 (getHH_ok (putH_ok plainH_ok)).m) (wf_i64 (getHH_ok (putH_ok plainH_ok)).r) (wf_u64 (getHH_ok (putH_ok plainH_ok)).v0.1) (getHH_ok (putH_ok plainH_ok)).v0.2.1 (getHH_ok (putH_ok plainH_ok)).v0.2.2 (wf_u64 (getHH_ok (putH_ok plainH_ok)).v1.1) (getHH_ok (putH_ok plainH_ok)).v1.2.1 (getHH_ok (putH_ok plainH_ok)).v1.2.2 (wf_i64 (getHH_ok (putH_ok plainH_ok)).s0.1) (getHH_ok (putH_ok plainH_ok)).s0.2.1 (getHH_ok (putH_ok plainH_ok)).s0.2.2.1 (getHH_ok (putH_ok plainH_ok)).s0.2.2.2 (wf_i64 (getHH_ok (putH_ok plainH_ok)).s1.1) (getHH_ok (putH_ok plainH_ok)).s1.2.1 (getHH_ok (putH_ok plainH_ok)).s1.2.2.1 (getHH_ok (putH_ok plainH_ok)).s1.2.2.2 (wf_i64 (getHH_ok (putH_ok plainH_ok)).s2.1) (getHH_ok (putH_ok plainH_ok)).s2.2.1 (getHH_ok (putH_ok plainH_ok)).s2.2.2.1 (getHH_ok (putH_ok plainH_ok)).s2.2.2.2 (wf_i64 (getHH_ok (putH_ok plainH_ok)).s3.1) (getHH_ok (putH_ok plainH_ok)).s3.2.1 (getHH_ok (putH_ok plainH_ok)).s3.2.2.1 (getHH_ok (putH_ok plainH_ok)).s3.2.2.2) (klL39 (k := 0) (x0 := plainH.m) (x1 := plainH.r) (x2 := plainH.v0.1) (x3 := ((plainH.v0.2.1 : Nat) : Int)) (x4 := plainH.v0.2.2.1) (x5 := plainH.v0.2.2.2) (x6 := plainH.v1.1) (x7 := ((plainH.v1.2.1 : Nat) : Int)) (x8 := plainH.v1.2.2.1) (x9 := plainH.v1.2.2.2) (x10 := plainH.s0.1) (x11 := plainH.s0.2.1) (x12 := plainH.s0.2.2.1) (x13 := plainH.s0.2.2.2.1) (x14 := plainH.s0.2.2.2.2) (x15 := plainH.s1.1) (x16 := plainH.s1.2.1) (x17 := plainH.s1.2.2.1) (x18 := plainH.s1.2.2.2.1) (x19 := plainH.s1.2.2.2.2) (x20 := plainH.s2.1) (x21 := plainH.s2.2.1) (x22 := plainH.s2.2.2.1) (x23 := plainH.s2.2.2.2.1) (x24 := plainH.s2.2.2.2.2) (x25 := plainH.s3.1) (x26 := plainH.s3.2.1) (x27 := plainH.s3.2.2.1) (x28 := plainH.s3.2.2.2.1) (x29 := plainH.s3.2.2.2.2) (wf_i64 plainH_ok.m) (wf_i64 plainH_ok.r) (wf_u64 plainH_ok.v0.1) plainH_ok.v0.2.1 plainH_ok.v0.2.2 (wf_u64 plainH_ok.v1.1) plainH_ok.v1.2.1 plainH_ok.v1.2.2 (wf_i64 plainH_ok.s0.1) plainH_ok.s0.2.1 plainH_ok.s0.2.2.1 plainH_ok.s0.2.2.2 (wf_i64 plainH_ok.s1.1) plainH_ok.s1.2.1 plainH_ok.s1.2.2.1 plainH_ok.s1.2.2.2 (wf_i64 plainH_ok.s2.1) plainH_ok.s2.2.1 plainH_ok.s2.2.2.1 plainH_ok.s2.2.2.2 (wf_i64 plainH_ok.s3.1) plainH_ok.s3.2.1 plainH_ok.s3.2.2.1 plainH_ok.s3.2.2.2) (by rw [flat_eq (by have hl_x4 : ((getHH (putH plainH)).v0.2.2.1).length = 32 := (getHH_ok (putH_ok plainH_ok)).v0.2.1; have hl_x5 : ((getHH (putH plainH)).v0.2.2.2).length = 32 := (getHH_ok (putH_ok plainH_ok)).v0.2.2; have hl_x8 : ((getHH (putH plainH)).v1.2.2.1).length = 32 := (getHH_ok (putH_ok plainH_ok)).v1.2.1; have hl_x9 : ((getHH (putH plainH)).v1.2.2.2).length = 32 := (getHH_ok (putH_ok plainH_ok)).v1.2.2; have hl_x12 : ((getHH (putH plainH)).s0.2.2.1).length = 16 := (getHH_ok (putH_ok plainH_ok)).s0.2.1; have hl_x13 : ((getHH (putH plainH)).s0.2.2.2.1).length = 32 := (getHH_ok (putH_ok plainH_ok)).s0.2.2.1; have hl_x14 : ((getHH (putH plainH)).s0.2.2.2.2).length = 32 := (getHH_ok (putH_ok plainH_ok)).s0.2.2.2; have hl_x17 : ((getHH (putH plainH)).s1.2.2.1).length = 16 := (getHH_ok (putH_ok plainH_ok)).s1.2.1; have hl_x18 : ((getHH (putH plainH)).s1.2.2.2.1).length = 32 := (getHH_ok (putH_ok plainH_ok)).s1.2.2.1; have hl_x19 : ((getHH (putH plainH)).s1.2.2.2.2).length = 32 := (getHH_ok (putH_ok plainH_ok)).s1.2.2.2; have hl_x22 : ((getHH (putH plainH)).s2.2.2.1).length = 16 := (getHH_ok (putH_ok plainH_ok)).s2.2.1; have hl_x23 : ((getHH (putH plainH)).s2.2.2.2.1).length = 32 := (getHH_ok (putH_ok plainH_ok)).s2.2.2.1; have hl_x24 : ((getHH (putH plainH)).s2.2.2.2.2).length = 32 := (getHH_ok (putH_ok plainH_ok)).s2.2.2.2; have hl_x27 : ((getHH (putH plainH)).s3.2.2.1).length = 16 := (getHH_ok (putH_ok plainH_ok)).s3.2.1; have hl_x28 : ((getHH (putH plainH)).s3.2.2.2.1).length = 32 := (getHH_ok (putH_ok plainH_ok)).s3.2.2.1; have hl_x29 : ((getHH (putH plainH)).s3.2.2.2.2).length = 32 := (getHH_ok (putH_ok plainH_ok)).s3.2.2.2; have hl_y4 : plainH.v0.2.2.1.length = 32 := plainH_ok.v0.2.1; have hl_y5 : plainH.v0.2.2.2.length = 32 := plainH_ok.v0.2.2; have hl_y8 : plainH.v1.2.2.1.length = 32 := plainH_ok.v1.2.1; have hl_y9 : plainH.v1.2.2.2.length = 32 := plainH_ok.v1.2.2; have hl_y12 : plainH.s0.2.2.1.length = 16 := plainH_ok.s0.2.1; have hl_y13 : plainH.s0.2.2.2.1.length = 32 := plainH_ok.s0.2.2.1; have hl_y14 : plainH.s0.2.2.2.2.length = 32 := plainH_ok.s0.2.2.2; have hl_y17 : plainH.s1.2.2.1.length = 16 := plainH_ok.s1.2.1; have hl_y18 : plainH.s1.2.2.2.1.length = 32 := plainH_ok.s1.2.2.1; have hl_y19 : plainH.s1.2.2.2.2.length = 32 := plainH_ok.s1.2.2.2; have hl_y22 : plainH.s2.2.2.1.length = 16 := plainH_ok.s2.2.1; have hl_y23 : plainH.s2.2.2.2.1.length = 32 := plainH_ok.s2.2.2.1; have hl_y24 : plainH.s2.2.2.2.2.length = 32 := plainH_ok.s2.2.2.2; have hl_y27 : plainH.s3.2.2.1.length = 16 := plainH_ok.s3.2.1; have hl_y28 : plainH.s3.2.2.2.1.length = 32 := plainH_ok.s3.2.2.1; have hl_y29 : plainH.s3.2.2.2.2.length = 32 := plainH_ok.s3.2.2.2; simp only [List.map_cons, List.map_nil, bv_length, List.length_cons, List.length_nil, hl_x4, hl_x5, hl_x8, hl_x9, hl_x12, hl_x13, hl_x14, hl_x17, hl_x18, hl_x19, hl_x22, hl_x23, hl_x24, hl_x27, hl_x28, hl_x29, hl_y4, hl_y5, hl_y8, hl_y9, hl_y12, hl_y13, hl_y14, hl_y17, hl_y18, hl_y19, hl_y22, hl_y23, hl_y24, hl_y27, hl_y28, hl_y29])]; simp [bv_iff, Int.ofNat_inj]; try omega)).1) rfl ?_; clear hE a; intro a hE
  refine s_pickt hE rfl rfl rfl ?_; clear hE a; intro a hE
  refine s_move hE rfl rfl ?_; clear hE a; intro a hE
  replace hE := hE.cast 34 rfl (show _ = Value.bool true from (congrArg Value.bool (by first | (with_reducible exact decide_eq_true rfl) | decide +kernel | (simp; done))))
  refine g_yes hE rfl rfl ?_
  refine s_move hE rfl rfl ?_; clear hE a; intro a hE
  refine g_yes hE rfl rfl ?_
  refine s_len hE rfl Try.underlying55 (own_slice (hM.get 0 rfl)) rfl ?_; clear hE a; intro a hE
  refine g_yes hE rfl rfl ?_
  refine s_bin hE rfl rfl bin_eql rfl ?_; clear hE a; intro a hE
  refine s_pickt hE rfl rfl rfl ?_; clear hE a; intro a hE
  refine s_move hE rfl rfl ?_; clear hE a; intro a hE
  replace hE := hE.cast 39 rfl (show _ = Value.bool true from (congrArg Value.bool (by first | (with_reducible exact decide_eq_true rfl) | decide +kernel | (simp; done))))
  refine g_yes hE rfl rfl ?_
  refine s_move hE rfl rfl ?_; clear hE a; intro a hE
  refine g_yes hE rfl rfl ?_
  refine s_sliceTo (l := 10) hE rfl (hM.get 0 rfl) slt55 ⟨_, rfl⟩ (by first | omega | (simp; omega) | (simp [*]; omega) | decide +kernel) rfl ?_; clear hE a; intro a hE
  refine g_yes hE rfl rfl ?_
  obtain ⟨cs42, hs42⟩ := own_subR (hM.get 0 rfl) (l := 10) (by first | omega | assumption | (simp; done) | (simp; omega) | decide) (by first | rfl | simp)
  refine s_toStr hE rfl Try.underlying55 Try.underlying5 Try.underlying9 hs42 (by intro X h; cases h; simp) rfl ?_; clear hE a; intro a hE
  refine g_yes hE rfl rfl ?_
  refine s_bin hE rfl rfl bins_str.1 rfl ?_; clear hE a; intro a hE
  refine s_pickt hE rfl rfl rfl ?_; clear hE a; intro a hE
  refine s_assign hE rfl rfl ?_; clear hE a; intro a hE
  refine q_nil ?_
  replace hE : Env a 45 [(0, _), (1, _), (3, _)] := hE.sel [0, 1, 3] rfl
  refine hK5 _ _ ?_
  refine wp_ret ?_
  refine f_ret1 hE rfl rfl ?_
  exact ⟨(by first | rfl | (simp; done)), hM.pick [] rfl⟩
end Go.Proofs.Ytamjaacddbecaaa
