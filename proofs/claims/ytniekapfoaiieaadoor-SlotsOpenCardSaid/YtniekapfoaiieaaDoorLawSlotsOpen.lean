/- SlotsOpen of casematelaw25 returns true for whatever header, passphrase and number. No condition. -/
import Derived.Test.YtniekapfoaiieaaDoorLq
import Derived.Test.YtniekapfoaiieaaDoorTie
import Derived.Test.YtniekapfoaiieaaDoorCards
set_option linter.unusedSimpArgs false
set_option linter.unusedVariables false
namespace Go.Proofs.YtniekapfoaiieaaDoor
open Go Go.Kx
open Go.ChangeShapes Go.WideShapes Go.ChangeAt Go.RowKit
theorem fo84_1 : fieldOff Tryd.prog 84 1 = some 32 := by kernel_rfl
theorem one9 : OneT Tryd.prog 9 := OneT.of Tryd.underlying9 rfl (by kernel_rfl)
theorem fo84_3 : fieldOff Tryd.prog 84 3 = some 49 := by kernel_rfl
theorem fo84_0 : fieldOff Tryd.prog 84 0 = some 0 := by kernel_rfl
theorem fo84_2 : fieldOff Tryd.prog 84 2 = some 33 := by kernel_rfl
theorem kl62 : ∀ {k : Nat} {x0 : Int} {x1 : Int} {x2 : Bool} {x3 : Int} {x4 : List UInt8} {x5 : List UInt8} {x6 : Bool} {x7 : Int} {x8 : List UInt8} {x9 : List UInt8} {x10 : Bool} {x11 : Int} {x12 : List UInt8} {x13 : List UInt8} {x14 : List UInt8} {x15 : Bool} {x16 : Int} {x17 : List UInt8} {x18 : List UInt8} {x19 : List UInt8} {x20 : Bool} {x21 : Int} {x22 : List UInt8} {x23 : List UInt8} {x24 : List UInt8} {x25 : Bool} {x26 : Int} {x27 : List UInt8} {x28 : List UInt8} {x29 : List UInt8} (hx0 : (Lit.int .i64 x0).wf = true) (hx1 : (Lit.int .i64 x1).wf = true) (hx3 : (Lit.int .u64 x3).wf = true) (hx4 : x4.length = 32) (hx5 : x5.length = 32) (hx7 : (Lit.int .u64 x7).wf = true) (hx8 : x8.length = 32) (hx9 : x9.length = 32) (hx11 : (Lit.int .i64 x11).wf = true) (hx12 : x12.length = 16) (hx13 : x13.length = 32) (hx14 : x14.length = 32) (hx16 : (Lit.int .i64 x16).wf = true) (hx17 : x17.length = 16) (hx18 : x18.length = 32) (hx19 : x19.length = 32) (hx21 : (Lit.int .i64 x21).wf = true) (hx22 : x22.length = 16) (hx23 : x23.length = 32) (hx24 : x24.length = 32) (hx26 : (Lit.int .i64 x26).wf = true) (hx27 : x27.length = 16) (hx28 : x28.length = 32) (hx29 : x29.length = 32), KL Tryd.prog (k + 6) 62 ([[[.int .i64 x0], [.int .i64 x1]].flatten, [[[.bool x2], [.int .u64 x3], [bv x4, bv x5].flatten].flatten, [[.bool x6], [.int .u64 x7], [bv x8, bv x9].flatten].flatten].flatten, [[[.bool x10], [.int .i64 x11], bv x12, [bv x13, bv x14].flatten].flatten, [[.bool x15], [.int .i64 x16], bv x17, [bv x18, bv x19].flatten].flatten, [[.bool x20], [.int .i64 x21], bv x22, [bv x23, bv x24].flatten].flatten, [[.bool x25], [.int .i64 x26], bv x27, [bv x28, bv x29].flatten].flatten].flatten].flatten) := fun {k} {x0} {x1} {x2} {x3} {x4} {x5} {x6} {x7} {x8} {x9} {x10} {x11} {x12} {x13} {x14} {x15} {x16} {x17} {x18} {x19} {x20} {x21} {x22} {x23} {x24} {x25} {x26} {x27} {x28} {x29} hx0 hx1 hx3 hx4 hx5 hx7 hx8 hx9 hx11 hx12 hx13 hx14 hx16 hx17 hx18 hx19 hx21 hx22 hx23 hx24 hx26 hx27 hx28 hx29 => KL.struct [2, 132, 328] Tryd.underlying62 (by kernel_rfl) (by kernel_rfl) (by kernel_rfl) (by simp [*]) [52, 55, 60] (by kernel_rfl) ⟨KL.struct [1, 1] Tryd.underlying52 (by kernel_rfl) (by kernel_rfl) (by kernel_rfl) (by simp [*]) [3, 3] (by kernel_rfl) ⟨KL.int Tryd.underlying3 hx0, KL.int Tryd.underlying3 hx1, trivial⟩, KL.array Tryd.underlying55 (m := 66) (by kernel_rfl) (by kernel_rfl) rfl (by intro p hp; simp only [List.mem_cons, List.not_mem_nil, or_false] at hp; rcases hp with rfl | rfl; exact ⟨KL.struct [1, 1, 64] Tryd.underlying54 (by kernel_rfl) (by kernel_rfl) (by kernel_rfl) (by simp [*]) [4, 24, 29] (by kernel_rfl) ⟨KL.bool Tryd.underlying4, KL.int Tryd.underlying24 hx3, KL.struct [32, 32] Tryd.underlying29 (by kernel_rfl) (by kernel_rfl) (by kernel_rfl) (by simp [*]) [23, 27] (by kernel_rfl) ⟨KL.arr8 Tryd.underlying23 Tryd.underlying5 (by kernel_rfl) (by kernel_rfl) hx4, KL.arr8 Tryd.underlying27 Tryd.underlying5 (by kernel_rfl) (by kernel_rfl) hx5, trivial⟩, trivial⟩, by simp [*]⟩; exact ⟨KL.struct [1, 1, 64] Tryd.underlying54 (by kernel_rfl) (by kernel_rfl) (by kernel_rfl) (by simp [*]) [4, 24, 29] (by kernel_rfl) ⟨KL.bool Tryd.underlying4, KL.int Tryd.underlying24 hx7, KL.struct [32, 32] Tryd.underlying29 (by kernel_rfl) (by kernel_rfl) (by kernel_rfl) (by simp [*]) [23, 27] (by kernel_rfl) ⟨KL.arr8 Tryd.underlying23 Tryd.underlying5 (by kernel_rfl) (by kernel_rfl) hx8, KL.arr8 Tryd.underlying27 Tryd.underlying5 (by kernel_rfl) (by kernel_rfl) hx9, trivial⟩, trivial⟩, by simp [*]⟩), KL.array Tryd.underlying60 (m := 82) (by kernel_rfl) (by kernel_rfl) rfl (by intro p hp; simp only [List.mem_cons, List.not_mem_nil, or_false] at hp; rcases hp with rfl | rfl | rfl | rfl; exact ⟨KL.struct [1, 1, 16, 64] Tryd.underlying59 (by kernel_rfl) (by kernel_rfl) (by kernel_rfl) (by simp [*]) [4, 3, 57, 29] (by kernel_rfl) ⟨KL.bool Tryd.underlying4, KL.int Tryd.underlying3 hx11, KL.arr8 Tryd.underlying57 Tryd.underlying5 (by kernel_rfl) (by kernel_rfl) hx12, KL.struct [32, 32] Tryd.underlying29 (by kernel_rfl) (by kernel_rfl) (by kernel_rfl) (by simp [*]) [23, 27] (by kernel_rfl) ⟨KL.arr8 Tryd.underlying23 Tryd.underlying5 (by kernel_rfl) (by kernel_rfl) hx13, KL.arr8 Tryd.underlying27 Tryd.underlying5 (by kernel_rfl) (by kernel_rfl) hx14, trivial⟩, trivial⟩, by simp [*]⟩; exact ⟨KL.struct [1, 1, 16, 64] Tryd.underlying59 (by kernel_rfl) (by kernel_rfl) (by kernel_rfl) (by simp [*]) [4, 3, 57, 29] (by kernel_rfl) ⟨KL.bool Tryd.underlying4, KL.int Tryd.underlying3 hx16, KL.arr8 Tryd.underlying57 Tryd.underlying5 (by kernel_rfl) (by kernel_rfl) hx17, KL.struct [32, 32] Tryd.underlying29 (by kernel_rfl) (by kernel_rfl) (by kernel_rfl) (by simp [*]) [23, 27] (by kernel_rfl) ⟨KL.arr8 Tryd.underlying23 Tryd.underlying5 (by kernel_rfl) (by kernel_rfl) hx18, KL.arr8 Tryd.underlying27 Tryd.underlying5 (by kernel_rfl) (by kernel_rfl) hx19, trivial⟩, trivial⟩, by simp [*]⟩; exact ⟨KL.struct [1, 1, 16, 64] Tryd.underlying59 (by kernel_rfl) (by kernel_rfl) (by kernel_rfl) (by simp [*]) [4, 3, 57, 29] (by kernel_rfl) ⟨KL.bool Tryd.underlying4, KL.int Tryd.underlying3 hx21, KL.arr8 Tryd.underlying57 Tryd.underlying5 (by kernel_rfl) (by kernel_rfl) hx22, KL.struct [32, 32] Tryd.underlying29 (by kernel_rfl) (by kernel_rfl) (by kernel_rfl) (by simp [*]) [23, 27] (by kernel_rfl) ⟨KL.arr8 Tryd.underlying23 Tryd.underlying5 (by kernel_rfl) (by kernel_rfl) hx23, KL.arr8 Tryd.underlying27 Tryd.underlying5 (by kernel_rfl) (by kernel_rfl) hx24, trivial⟩, trivial⟩, by simp [*]⟩; exact ⟨KL.struct [1, 1, 16, 64] Tryd.underlying59 (by kernel_rfl) (by kernel_rfl) (by kernel_rfl) (by simp [*]) [4, 3, 57, 29] (by kernel_rfl) ⟨KL.bool Tryd.underlying4, KL.int Tryd.underlying3 hx26, KL.arr8 Tryd.underlying57 Tryd.underlying5 (by kernel_rfl) (by kernel_rfl) hx27, KL.struct [32, 32] Tryd.underlying29 (by kernel_rfl) (by kernel_rfl) (by kernel_rfl) (by simp [*]) [23, 27] (by kernel_rfl) ⟨KL.arr8 Tryd.underlying23 Tryd.underlying5 (by kernel_rfl) (by kernel_rfl) hx28, KL.arr8 Tryd.underlying27 Tryd.underlying5 (by kernel_rfl) (by kernel_rfl) hx29, trivial⟩, trivial⟩, by simp [*]⟩), trivial⟩
theorem klL62 : ∀ {k : Nat} {x0 : Int} {x1 : Int} {x2 : Bool} {x3 : Int} {x4 : List UInt8} {x5 : List UInt8} {x6 : Bool} {x7 : Int} {x8 : List UInt8} {x9 : List UInt8} {x10 : Bool} {x11 : Int} {x12 : List UInt8} {x13 : List UInt8} {x14 : List UInt8} {x15 : Bool} {x16 : Int} {x17 : List UInt8} {x18 : List UInt8} {x19 : List UInt8} {x20 : Bool} {x21 : Int} {x22 : List UInt8} {x23 : List UInt8} {x24 : List UInt8} {x25 : Bool} {x26 : Int} {x27 : List UInt8} {x28 : List UInt8} {x29 : List UInt8} (hx0 : (Lit.int .i64 x0).wf = true) (hx1 : (Lit.int .i64 x1).wf = true) (hx3 : (Lit.int .u64 x3).wf = true) (hx4 : x4.length = 32) (hx5 : x5.length = 32) (hx7 : (Lit.int .u64 x7).wf = true) (hx8 : x8.length = 32) (hx9 : x9.length = 32) (hx11 : (Lit.int .i64 x11).wf = true) (hx12 : x12.length = 16) (hx13 : x13.length = 32) (hx14 : x14.length = 32) (hx16 : (Lit.int .i64 x16).wf = true) (hx17 : x17.length = 16) (hx18 : x18.length = 32) (hx19 : x19.length = 32) (hx21 : (Lit.int .i64 x21).wf = true) (hx22 : x22.length = 16) (hx23 : x23.length = 32) (hx24 : x24.length = 32) (hx26 : (Lit.int .i64 x26).wf = true) (hx27 : x27.length = 16) (hx28 : x28.length = 32) (hx29 : x29.length = 32), KL Tryd.prog (k + 6) 62 ([[.int .i64 x0], [.int .i64 x1], [.bool x2], [.int .u64 x3], bv x4, bv x5, [.bool x6], [.int .u64 x7], bv x8, bv x9, [.bool x10], [.int .i64 x11], bv x12, bv x13, bv x14, [.bool x15], [.int .i64 x16], bv x17, bv x18, bv x19, [.bool x20], [.int .i64 x21], bv x22, bv x23, bv x24, [.bool x25], [.int .i64 x26], bv x27, bv x28, bv x29] : List (List Value)).flatten := fun {k} {x0} {x1} {x2} {x3} {x4} {x5} {x6} {x7} {x8} {x9} {x10} {x11} {x12} {x13} {x14} {x15} {x16} {x17} {x18} {x19} {x20} {x21} {x22} {x23} {x24} {x25} {x26} {x27} {x28} {x29} hx0 hx1 hx3 hx4 hx5 hx7 hx8 hx9 hx11 hx12 hx13 hx14 hx16 hx17 hx18 hx19 hx21 hx22 hx23 hx24 hx26 hx27 hx28 hx29 => by
  have h := kl62 (k := k) (x0 := x0) (x1 := x1) (x2 := x2) (x3 := x3) (x4 := x4) (x5 := x5) (x6 := x6) (x7 := x7) (x8 := x8) (x9 := x9) (x10 := x10) (x11 := x11) (x12 := x12) (x13 := x13) (x14 := x14) (x15 := x15) (x16 := x16) (x17 := x17) (x18 := x18) (x19 := x19) (x20 := x20) (x21 := x21) (x22 := x22) (x23 := x23) (x24 := x24) (x25 := x25) (x26 := x26) (x27 := x27) (x28 := x28) (x29 := x29) hx0 hx1 hx3 hx4 hx5 hx7 hx8 hx9 hx11 hx12 hx13 hx14 hx16 hx17 hx18 hx19 hx21 hx22 hx23 hx24 hx26 hx27 hx28 hx29
  simpa only [List.flatten_cons, List.flatten_nil, List.append_nil, List.append_assoc] using h
theorem eqk62 : ∀ {cs ds : List Value} {b : Bool} {k k' : Nat}, KL Tryd.prog k 62 cs → KL Tryd.prog k' 62 ds → (b = true ↔ cs = ds) → Bin Tryd.prog .eql 62 (.agg cs.toArray) (.agg ds.toArray) (.bool b) ∧ Bin Tryd.prog .neq 62 (.agg cs.toArray) (.agg ds.toArray) (.bool (!b)) := fun h1 h2 hb => bins_key (m := 6) (by kernel_rfl) rfl (by kernel_rfl) (by rw [Tryd.underlying62]) h1 h2 hb
theorem hd_cells (x : Hd) : hdC x = ([[.int .i64 x.m], [.int .i64 x.r], [.bool x.v0.1], [.int .u64 ((x.v0.2.1 : Nat) : Int)], bv x.v0.2.2.1, bv x.v0.2.2.2, [.bool x.v1.1], [.int .u64 ((x.v1.2.1 : Nat) : Int)], bv x.v1.2.2.1, bv x.v1.2.2.2, [.bool x.s0.1], [.int .i64 x.s0.2.1], bv x.s0.2.2.1, bv x.s0.2.2.2.1, bv x.s0.2.2.2.2, [.bool x.s1.1], [.int .i64 x.s1.2.1], bv x.s1.2.2.1, bv x.s1.2.2.2.1, bv x.s1.2.2.2.2, [.bool x.s2.1], [.int .i64 x.s2.2.1], bv x.s2.2.2.1, bv x.s2.2.2.2.1, bv x.s2.2.2.2.2, [.bool x.s3.1], [.int .i64 x.s3.2.1], bv x.s3.2.2.1, bv x.s3.2.2.2.1, bv x.s3.2.2.2.2] : List (List Value)).flatten := by simp [hdC, volC, slotC, boxC]
set_option maxRecDepth 20000 in
set_option maxHeartbeats 4000000 in
theorem slotsOpen_c (h : Hd) (x : List UInt8) (p : List UInt8) (b : List UInt8) (z : Int) (i : UInt8) (w : World) (hG : (glb 1).holds w) (hT : tabP.holds w) (hk_h : OkHd h) (hl_x : x.length = 32) (hl_b : b.length = 16) (hz : In64 z) : Calls Tryd.prog 11 #[.agg ([[.int .i64 h.m], [.int .i64 h.r], [.bool h.v0.1], [.int .u64 ((h.v0.2.1 : Nat) : Int)], bv h.v0.2.2.1, bv h.v0.2.2.2, [.bool h.v1.1], [.int .u64 ((h.v1.2.1 : Nat) : Int)], bv h.v1.2.2.1, bv h.v1.2.2.2, [.bool h.s0.1], [.int .i64 h.s0.2.1], bv h.s0.2.2.1, bv h.s0.2.2.2.1, bv h.s0.2.2.2.2, [.bool h.s1.1], [.int .i64 h.s1.2.1], bv h.s1.2.2.1, bv h.s1.2.2.2.1, bv h.s1.2.2.2.2, [.bool h.s2.1], [.int .i64 h.s2.2.1], bv h.s2.2.2.1, bv h.s2.2.2.2.1, bv h.s2.2.2.2.2, [.bool h.s3.1], [.int .i64 h.s3.2.1], bv h.s3.2.2.1, bv h.s3.2.2.2.1, bv h.s3.2.2.2.2] : List (List Value)).flatten.toArray, .agg ([bv x, [.string (str p)], bv b, [.int .i64 z]] : List (List Value)).flatten.toArray, .int .u8 (i.toNat : Int)] w fun e w' => e = .returned (.bool true) ∧ Mem w [] w' [] := by
  have hM : Mem w [] w [glb 1, tabP] := Mem.startR w (fun g hg => by
    simp only [List.mem_cons, List.not_mem_nil, or_false] at hg
    rcases hg with rfl | rfl
    · exact ⟨hG, rfl⟩
    · exact ⟨hT, rfl⟩)
  refine f_enter 135 Tryd.func11 rfl rfl rfl ?_
  intro a hE
  replace hE : Env a 135 [(0, _), (1, _), (2, _)] := hE
  refine wp_seq_k (fun K1 hK1 => ?_)
  refine wp_plain [false, false, true] rfl rfl ?_
  have hbl3_4 : h.v0.2.2.1.length = 32 := hk_h.v0.2.1
  have hbl3_5 : h.v0.2.2.2.length = 32 := hk_h.v0.2.2
  have hbl3_8 : h.v1.2.2.1.length = 32 := hk_h.v1.2.1
  have hbl3_9 : h.v1.2.2.2.length = 32 := hk_h.v1.2.2
  have hbl3_12 : h.s0.2.2.1.length = 16 := hk_h.s0.2.1
  have hbl3_13 : h.s0.2.2.2.1.length = 32 := hk_h.s0.2.2.1
  have hbl3_14 : h.s0.2.2.2.2.length = 32 := hk_h.s0.2.2.2
  have hbl3_17 : h.s1.2.2.1.length = 16 := hk_h.s1.2.1
  have hbl3_18 : h.s1.2.2.2.1.length = 32 := hk_h.s1.2.2.1
  have hbl3_19 : h.s1.2.2.2.2.length = 32 := hk_h.s1.2.2.2
  have hbl3_22 : h.s2.2.2.1.length = 16 := hk_h.s2.2.1
  have hbl3_23 : h.s2.2.2.2.1.length = 32 := hk_h.s2.2.2.1
  have hbl3_24 : h.s2.2.2.2.2.length = 32 := hk_h.s2.2.2.2
  have hbl3_27 : h.s3.2.2.1.length = 16 := hk_h.s3.2.1
  have hbl3_28 : h.s3.2.2.2.1.length = 32 := hk_h.s3.2.2.1
  have hbl3_29 : h.s3.2.2.2.2.length = 32 := hk_h.s3.2.2.2
  refine s_box (ss := [[.int .i64 h.m], [.int .i64 h.r], [.bool h.v0.1], [.int .u64 ((h.v0.2.1 : Nat) : Int)], bv h.v0.2.2.1, bv h.v0.2.2.2, [.bool h.v1.1], [.int .u64 ((h.v1.2.1 : Nat) : Int)], bv h.v1.2.2.1, bv h.v1.2.2.2, [.bool h.s0.1], [.int .i64 h.s0.2.1], bv h.s0.2.2.1, bv h.s0.2.2.2.1, bv h.s0.2.2.2.2, [.bool h.s1.1], [.int .i64 h.s1.2.1], bv h.s1.2.2.1, bv h.s1.2.2.2.1, bv h.s1.2.2.2.2, [.bool h.s2.1], [.int .i64 h.s2.2.1], bv h.s2.2.2.1, bv h.s2.2.2.2.1, bv h.s2.2.2.2.2, [.bool h.s3.1], [.int .i64 h.s3.2.1], bv h.s3.2.2.1, bv h.s3.2.2.2.1, bv h.s3.2.2.2.2]) [1, 1, 1, 1, 32, 32, 1, 1, 32, 32, 1, 1, 16, 32, 32, 1, 1, 16, 32, 32, 1, 1, 16, 32, 32, 1, 1, 16, 32, 32] hE hM rfl rfl (by simp only [List.map_cons, List.map_nil, bv_length, List.length_cons, List.length_nil, List.length_replicate, hbl3_4, hbl3_5, hbl3_8, hbl3_9, hbl3_12, hbl3_13, hbl3_14, hbl3_17, hbl3_18, hbl3_19, hbl3_22, hbl3_23, hbl3_24, hbl3_27, hbl3_28, hbl3_29]) rfl ?_; clear hE a; intro a b3 w1 hE hM'
  clear hM; have hM := hM'; clear hM'
  have hbl4_0 : x.length = 32 := hl_x
  have hbl4_2 : b.length = 16 := hl_b
  refine s_box (ss := [bv x, [.string (str p)], bv b, [.int .i64 z]]) [32, 1, 16, 1] hE hM rfl rfl (by simp only [List.map_cons, List.map_nil, bv_length, List.length_cons, List.length_nil, List.length_replicate, hbl4_0, hbl4_2]) rfl ?_; clear hE a; intro a b4 w2 hE hM'
  clear hM; have hM := hM'; clear hM'
  refine s_assign hE rfl rfl ?_; clear hE a; intro a hE
  refine q_nil ?_
  replace hE : Env a 135 [(2, _), (3, _), (4, _), (6, _)] := hE.sel [2, 3, 4, 6] rfl
  refine hK1 _ _ ?_
  refine wp_seq_k (fun K2 hK2 => ?_)
  refine wp_seq_k (fun K3 hK3 => ?_)
  refine wp_plain [true, true, true, true, true, false] rfl rfl ?_
  refine s_loadN hE rfl (hM.get 1 rfl) row62 rfl (by intro X h; cases h) rfl ?_; clear hE a; intro a hE
  replace hE := hE.cast 18 rfl (show _ = Value.agg ([[.int .i64 h.m], [.int .i64 h.r], [.bool h.v0.1], [.int .u64 ((h.v0.2.1 : Nat) : Int)], bv h.v0.2.2.1, bv h.v0.2.2.2, [.bool h.v1.1], [.int .u64 ((h.v1.2.1 : Nat) : Int)], bv h.v1.2.2.1, bv h.v1.2.2.2, [.bool h.s0.1], [.int .i64 h.s0.2.1], bv h.s0.2.2.1, bv h.s0.2.2.2.1, bv h.s0.2.2.2.2, [.bool h.s1.1], [.int .i64 h.s1.2.1], bv h.s1.2.2.1, bv h.s1.2.2.2.1, bv h.s1.2.2.2.2, [.bool h.s2.1], [.int .i64 h.s2.2.1], bv h.s2.2.2.1, bv h.s2.2.2.2.1, bv h.s2.2.2.2.2, [.bool h.s3.1], [.int .i64 h.s3.2.1], bv h.s3.2.2.1, bv h.s3.2.2.2.1, bv h.s3.2.2.2.2] : List (List Value)).flatten.toArray from (by first | rfl | simp only [List.flatten_cons, List.flatten_nil, List.append_nil, List.append_assoc]))
  refine s_fieldAddr hE rfl fo84_1 rfl ?_; clear hE a; intro a hE
  refine s_load1 hE rfl (hM.get 0 rfl) rfl one9 (by intro X h; cases h) rfl ?_; clear hE a; intro a hE
  refine s_fieldAddr hE rfl fo84_3 rfl ?_; clear hE a; intro a hE
  refine s_load1 hE rfl (hM.get 0 rfl) rfl one3 (by intro X h; cases h) rfl ?_; clear hE a; intro a hE
  refine s_call hE rfl Tryd.call27 (large25_c h p z _ hk_h) rfl ?_
  rintro e w3 ⟨rfl, hN⟩
  refine ⟨_, rfl, trivial, ?_⟩; clear hE a; intro a hE
  replace hM : Mem _ _ w3 [_, _, _, _] := hM.call0 hN trivial; clear hN
  refine q_nil ?_
  replace hE : Env a 135 [(2, _), (3, _), (4, _), (6, _), (23, _)] := hE.sel [2, 3, 4, 6, 23] rfl
  refine hK3 _ _ ?_
  refine hE.split 23 rfl (fun hb23 hE' => ?_) (fun hb23 hE' => ?_)
  · replace hE := hE'; clear hE'
    refine wp_cond_true (hE.eval rfl) ?_
    refine wp_seq_k (fun K4 hK4 => ?_)
    refine wp_plain [false, true] rfl rfl ?_
    refine s_call hE rfl Tryd.call28 (awake25_c  _ (hM.get 2 rfl) (hM.get 3 rfl)) rfl ?_
    rintro e w4 ⟨rfl, hN⟩
    refine ⟨_, rfl, trivial, ?_⟩; clear hE a; intro a hE
    replace hM : Mem _ _ w4 [_, _, _, _] := hM.call0 hN trivial; clear hN
    refine s_assign hE rfl rfl ?_; clear hE a; intro a hE
    refine q_nil ?_
    replace hE : Env a 135 [(2, _), (3, _), (4, _), (6, _), (23, _)] := hE.sel [2, 3, 4, 6, 23] rfl
    refine hK4 _ _ ?_
    refine wp_ret ?_
    refine q_then_r ?_
    refine f_ret1 hE rfl rfl ?_
    exact ⟨(by first | rfl | (simp; done)), hM.pick [] rfl⟩
  · replace hE := hE'; clear hE'
    refine wp_cond_false (hE.eval rfl) ?_
    refine wp_skip ?_
    refine hK2 _ _ ?_
    refine wp_seq_k (fun K4 hK4 => ?_)
    refine wp_plain [true, true, true, true, true, true, true, true, true, false, true, true, true, true, false, false, true, true] rfl rfl ?_
    refine s_loadN hE rfl (hM.get 1 rfl) row62 rfl (by intro X h; cases h) rfl ?_; clear hE a; intro a hE
    replace hE := hE.cast 26 rfl (show _ = Value.agg ([[.int .i64 h.m], [.int .i64 h.r], [.bool h.v0.1], [.int .u64 ((h.v0.2.1 : Nat) : Int)], bv h.v0.2.2.1, bv h.v0.2.2.2, [.bool h.v1.1], [.int .u64 ((h.v1.2.1 : Nat) : Int)], bv h.v1.2.2.1, bv h.v1.2.2.2, [.bool h.s0.1], [.int .i64 h.s0.2.1], bv h.s0.2.2.1, bv h.s0.2.2.2.1, bv h.s0.2.2.2.2, [.bool h.s1.1], [.int .i64 h.s1.2.1], bv h.s1.2.2.1, bv h.s1.2.2.2.1, bv h.s1.2.2.2.2, [.bool h.s2.1], [.int .i64 h.s2.2.1], bv h.s2.2.2.1, bv h.s2.2.2.2.1, bv h.s2.2.2.2.2, [.bool h.s3.1], [.int .i64 h.s3.2.1], bv h.s3.2.2.1, bv h.s3.2.2.2.1, bv h.s3.2.2.2.2] : List (List Value)).flatten.toArray from (by first | rfl | simp only [List.flatten_cons, List.flatten_nil, List.append_nil, List.append_assoc]))
    refine s_fieldAddr hE rfl fo84_0 rfl ?_; clear hE a; intro a hE
    refine s_loadN hE rfl (hM.get 0 rfl) row23 rfl (by intro X h; cases h) rfl ?_; clear hE a; intro a hE
    refine s_fieldAddr hE rfl fo84_1 rfl ?_; clear hE a; intro a hE
    refine s_load1 hE rfl (hM.get 0 rfl) rfl one9 (by intro X h; cases h) rfl ?_; clear hE a; intro a hE
    refine s_fieldAddr hE rfl fo84_2 rfl ?_; clear hE a; intro a hE
    refine s_loadN hE rfl (hM.get 0 rfl) row57 rfl (by intro X h; cases h) rfl ?_; clear hE a; intro a hE
    refine s_fieldAddr hE rfl fo84_3 rfl ?_; clear hE a; intro a hE
    refine s_load1 hE rfl (hM.get 0 rfl) rfl one3 (by intro X h; cases h) rfl ?_; clear hE a; intro a hE
    refine s_call hE rfl Tryd.call37 (add_c h x p b z _ (hM.get 2 rfl) (hM.get 3 rfl) hk_h hl_x hl_b (by have hl_1 : x.length = 32 := hl_x; have hl_3 : b.length = 16 := hl_b; first | omega | assumption | (simp; done) | (simp; omega) | decide)) rfl ?_
    rintro e w4 ⟨rfl, hN⟩
    refine ⟨_, rfl, trivial, ?_⟩; clear hE a; intro a hE
    replace hM : Mem _ _ w4 [_, _, _, _] := hM.call0 hN trivial; clear hN
    refine s_move hE rfl rfl ?_; clear hE a; intro a hE
    refine s_extract hE rfl rfl rfl ?_; clear hE a; intro a hE
    refine s_extract hE rfl rfl rfl ?_; clear hE a; intro a hE
    refine s_extract hE rfl rfl rfl ?_; clear hE a; intro a hE
    refine s_alloc [1, 1, 1, 1, 32, 32, 1, 1, 32, 32, 1, 1, 16, 32, 32, 1, 1, 16, 32, 32, 1, 1, 16, 32, 32, 1, 1, 16, 32, 32] hE hM zeroL62 rfl rfl ?_; clear hE a; intro a b7 w5 hE hM'
    clear hM; have hM := hM'; clear hM'
    have hsl95_4 : (((addS h x p b z).1).v0.2.2.1).length = 32 := (addS_ok (h := h) (x := x) (p := p) (b := b) (z := z) hk_h (by first | assumption | decide | (unfold In64; omega)) (by have hl_ab : b.length = 16 := hl_b; first | assumption | (simp; done)) (by have hl_ax : x.length = 32 := hl_x; first | assumption | (simp; done))).v0.2.1
    have hsl95_5 : (((addS h x p b z).1).v0.2.2.2).length = 32 := (addS_ok (h := h) (x := x) (p := p) (b := b) (z := z) hk_h (by first | assumption | decide | (unfold In64; omega)) (by have hl_ab : b.length = 16 := hl_b; first | assumption | (simp; done)) (by have hl_ax : x.length = 32 := hl_x; first | assumption | (simp; done))).v0.2.2
    have hsl95_8 : (((addS h x p b z).1).v1.2.2.1).length = 32 := (addS_ok (h := h) (x := x) (p := p) (b := b) (z := z) hk_h (by first | assumption | decide | (unfold In64; omega)) (by have hl_ab : b.length = 16 := hl_b; first | assumption | (simp; done)) (by have hl_ax : x.length = 32 := hl_x; first | assumption | (simp; done))).v1.2.1
    have hsl95_9 : (((addS h x p b z).1).v1.2.2.2).length = 32 := (addS_ok (h := h) (x := x) (p := p) (b := b) (z := z) hk_h (by first | assumption | decide | (unfold In64; omega)) (by have hl_ab : b.length = 16 := hl_b; first | assumption | (simp; done)) (by have hl_ax : x.length = 32 := hl_x; first | assumption | (simp; done))).v1.2.2
    have hsl95_12 : (((addS h x p b z).1).s0.2.2.1).length = 16 := (addS_ok (h := h) (x := x) (p := p) (b := b) (z := z) hk_h (by first | assumption | decide | (unfold In64; omega)) (by have hl_ab : b.length = 16 := hl_b; first | assumption | (simp; done)) (by have hl_ax : x.length = 32 := hl_x; first | assumption | (simp; done))).s0.2.1
    have hsl95_13 : (((addS h x p b z).1).s0.2.2.2.1).length = 32 := (addS_ok (h := h) (x := x) (p := p) (b := b) (z := z) hk_h (by first | assumption | decide | (unfold In64; omega)) (by have hl_ab : b.length = 16 := hl_b; first | assumption | (simp; done)) (by have hl_ax : x.length = 32 := hl_x; first | assumption | (simp; done))).s0.2.2.1
    have hsl95_14 : (((addS h x p b z).1).s0.2.2.2.2).length = 32 := (addS_ok (h := h) (x := x) (p := p) (b := b) (z := z) hk_h (by first | assumption | decide | (unfold In64; omega)) (by have hl_ab : b.length = 16 := hl_b; first | assumption | (simp; done)) (by have hl_ax : x.length = 32 := hl_x; first | assumption | (simp; done))).s0.2.2.2
    have hsl95_17 : (((addS h x p b z).1).s1.2.2.1).length = 16 := (addS_ok (h := h) (x := x) (p := p) (b := b) (z := z) hk_h (by first | assumption | decide | (unfold In64; omega)) (by have hl_ab : b.length = 16 := hl_b; first | assumption | (simp; done)) (by have hl_ax : x.length = 32 := hl_x; first | assumption | (simp; done))).s1.2.1
    have hsl95_18 : (((addS h x p b z).1).s1.2.2.2.1).length = 32 := (addS_ok (h := h) (x := x) (p := p) (b := b) (z := z) hk_h (by first | assumption | decide | (unfold In64; omega)) (by have hl_ab : b.length = 16 := hl_b; first | assumption | (simp; done)) (by have hl_ax : x.length = 32 := hl_x; first | assumption | (simp; done))).s1.2.2.1
    have hsl95_19 : (((addS h x p b z).1).s1.2.2.2.2).length = 32 := (addS_ok (h := h) (x := x) (p := p) (b := b) (z := z) hk_h (by first | assumption | decide | (unfold In64; omega)) (by have hl_ab : b.length = 16 := hl_b; first | assumption | (simp; done)) (by have hl_ax : x.length = 32 := hl_x; first | assumption | (simp; done))).s1.2.2.2
    have hsl95_22 : (((addS h x p b z).1).s2.2.2.1).length = 16 := (addS_ok (h := h) (x := x) (p := p) (b := b) (z := z) hk_h (by first | assumption | decide | (unfold In64; omega)) (by have hl_ab : b.length = 16 := hl_b; first | assumption | (simp; done)) (by have hl_ax : x.length = 32 := hl_x; first | assumption | (simp; done))).s2.2.1
    have hsl95_23 : (((addS h x p b z).1).s2.2.2.2.1).length = 32 := (addS_ok (h := h) (x := x) (p := p) (b := b) (z := z) hk_h (by first | assumption | decide | (unfold In64; omega)) (by have hl_ab : b.length = 16 := hl_b; first | assumption | (simp; done)) (by have hl_ax : x.length = 32 := hl_x; first | assumption | (simp; done))).s2.2.2.1
    have hsl95_24 : (((addS h x p b z).1).s2.2.2.2.2).length = 32 := (addS_ok (h := h) (x := x) (p := p) (b := b) (z := z) hk_h (by first | assumption | decide | (unfold In64; omega)) (by have hl_ab : b.length = 16 := hl_b; first | assumption | (simp; done)) (by have hl_ax : x.length = 32 := hl_x; first | assumption | (simp; done))).s2.2.2.2
    have hsl95_27 : (((addS h x p b z).1).s3.2.2.1).length = 16 := (addS_ok (h := h) (x := x) (p := p) (b := b) (z := z) hk_h (by first | assumption | decide | (unfold In64; omega)) (by have hl_ab : b.length = 16 := hl_b; first | assumption | (simp; done)) (by have hl_ax : x.length = 32 := hl_x; first | assumption | (simp; done))).s3.2.1
    have hsl95_28 : (((addS h x p b z).1).s3.2.2.2.1).length = 32 := (addS_ok (h := h) (x := x) (p := p) (b := b) (z := z) hk_h (by first | assumption | decide | (unfold In64; omega)) (by have hl_ab : b.length = 16 := hl_b; first | assumption | (simp; done)) (by have hl_ax : x.length = 32 := hl_x; first | assumption | (simp; done))).s3.2.2.1
    have hsl95_29 : (((addS h x p b z).1).s3.2.2.2.2).length = 32 := (addS_ok (h := h) (x := x) (p := p) (b := b) (z := z) hk_h (by first | assumption | decide | (unfold In64; omega)) (by have hl_ab : b.length = 16 := hl_b; first | assumption | (simp; done)) (by have hl_ax : x.length = 32 := hl_x; first | assumption | (simp; done))).s3.2.2.2
    refine s_storeSegs 0 30 (vss := [[.int .i64 (((addS h x p b z).1).m)], [.int .i64 (((addS h x p b z).1).r)], [.bool (((addS h x p b z).1).v0.1)], [.int .u64 ((((addS h x p b z).1).v0.2.1 : Nat) : Int)], bv (((addS h x p b z).1).v0.2.2.1), bv (((addS h x p b z).1).v0.2.2.2), [.bool (((addS h x p b z).1).v1.1)], [.int .u64 ((((addS h x p b z).1).v1.2.1 : Nat) : Int)], bv (((addS h x p b z).1).v1.2.2.1), bv (((addS h x p b z).1).v1.2.2.2), [.bool (((addS h x p b z).1).s0.1)], [.int .i64 (((addS h x p b z).1).s0.2.1)], bv (((addS h x p b z).1).s0.2.2.1), bv (((addS h x p b z).1).s0.2.2.2.1), bv (((addS h x p b z).1).s0.2.2.2.2), [.bool (((addS h x p b z).1).s1.1)], [.int .i64 (((addS h x p b z).1).s1.2.1)], bv (((addS h x p b z).1).s1.2.2.1), bv (((addS h x p b z).1).s1.2.2.2.1), bv (((addS h x p b z).1).s1.2.2.2.2), [.bool (((addS h x p b z).1).s2.1)], [.int .i64 (((addS h x p b z).1).s2.2.1)], bv (((addS h x p b z).1).s2.2.2.1), bv (((addS h x p b z).1).s2.2.2.2.1), bv (((addS h x p b z).1).s2.2.2.2.2), [.bool (((addS h x p b z).1).s3.1)], [.int .i64 (((addS h x p b z).1).s3.2.1)], bv (((addS h x p b z).1).s3.2.2.1), bv (((addS h x p b z).1).s3.2.2.2.1), bv (((addS h x p b z).1).s3.2.2.2.2)]) hE rfl rfl hM rfl sz62 (by simp only [List.take_succ_cons, List.take_zero, List.drop_zero, List.drop_succ_cons]; simp only [List.map_cons, List.map_nil, bv_length, List.length_cons, List.length_nil, List.length_replicate, hsl95_4, hsl95_5, hsl95_8, hsl95_9, hsl95_12, hsl95_13, hsl95_14, hsl95_17, hsl95_18, hsl95_19, hsl95_22, hsl95_23, hsl95_24, hsl95_27, hsl95_28, hsl95_29]) (by decide) rfl (one_fl ⟨one1 rfl, one1 rfl, one1 rfl, one1 rfl, bv_one _, bv_one _, one1 rfl, one1 rfl, bv_one _, bv_one _, one1 rfl, one1 rfl, bv_one _, bv_one _, bv_one _, one1 rfl, one1 rfl, bv_one _, bv_one _, bv_one _, one1 rfl, one1 rfl, bv_one _, bv_one _, bv_one _, one1 rfl, one1 rfl, bv_one _, bv_one _, bv_one _, trivial⟩) rfl (by intro X h; cases h) ?_; intro w6 hM'; clear hM; have hM := hM'; clear hM'
    try simp only [List.take_zero, List.take_succ_cons, List.drop_zero, List.drop_succ_cons, List.take_nil, List.drop_nil, List.nil_append, List.append_nil, List.cons_append] at hM
    refine s_assign hE rfl rfl ?_; clear hE a; intro a hE
    refine s_assign hE rfl rfl ?_; clear hE a; intro a hE
    refine q_nil ?_
    replace hE : Env a 135 [(2, _), (3, _), (4, _), (6, _), (7, _), (8, _), (9, _), (23, _)] := hE.sel [2, 3, 4, 6, 7, 8, 9, 23] rfl
    refine hK4 _ _ ?_
    refine wp_seq_k (fun K5 hK5 => ?_)
    refine wp_seq_k (fun K6 hK6 => ?_)
    refine wp_plain [true, true] rfl rfl ?_
    refine s_move hE rfl rfl ?_; clear hE a; intro a hE
    refine s_bin hE rfl rfl bin_neq rfl ?_; clear hE a; intro a hE
    refine q_nil ?_
    replace hE : Env a 135 [(2, _), (3, _), (4, _), (6, _), (7, _), (8, _), (23, _), (40, _)] := hE.sel [2, 3, 4, 6, 7, 8, 23, 40] rfl
    refine hK6 _ _ ?_
    refine hE.split 40 rfl (fun hb40 hE' => ?_) (fun hb40 hE' => ?_)
    · replace hE := hE'; clear hE'
      replace hb40 := of_decide_eq_false (not_true hb40)
      replace hb40 : ¬ (((addS h x p b z).2.2) = 0) := by omega
      obtain ⟨e1, e2⟩ := add_bad hb40
      refine wp_cond_true (hE.eval rfl) ?_
      refine wp_seq_k (fun K7 hK7 => ?_)
      refine wp_plain [true, true, true, true, true, true, true, true, false, true, true] rfl rfl ?_
      refine s_loadN hE rfl (hM.get 0 rfl) row62 rfl (by intro X h; cases h) rfl ?_; clear hE a; intro a hE
      replace hE := hE.cast 41 rfl (show _ = Value.agg ([[.int .i64 (((addS h x p b z).1).m)], [.int .i64 (((addS h x p b z).1).r)], [.bool (((addS h x p b z).1).v0.1)], [.int .u64 ((((addS h x p b z).1).v0.2.1 : Nat) : Int)], bv (((addS h x p b z).1).v0.2.2.1), bv (((addS h x p b z).1).v0.2.2.2), [.bool (((addS h x p b z).1).v1.1)], [.int .u64 ((((addS h x p b z).1).v1.2.1 : Nat) : Int)], bv (((addS h x p b z).1).v1.2.2.1), bv (((addS h x p b z).1).v1.2.2.2), [.bool (((addS h x p b z).1).s0.1)], [.int .i64 (((addS h x p b z).1).s0.2.1)], bv (((addS h x p b z).1).s0.2.2.1), bv (((addS h x p b z).1).s0.2.2.2.1), bv (((addS h x p b z).1).s0.2.2.2.2), [.bool (((addS h x p b z).1).s1.1)], [.int .i64 (((addS h x p b z).1).s1.2.1)], bv (((addS h x p b z).1).s1.2.2.1), bv (((addS h x p b z).1).s1.2.2.2.1), bv (((addS h x p b z).1).s1.2.2.2.2), [.bool (((addS h x p b z).1).s2.1)], [.int .i64 (((addS h x p b z).1).s2.2.1)], bv (((addS h x p b z).1).s2.2.2.1), bv (((addS h x p b z).1).s2.2.2.2.1), bv (((addS h x p b z).1).s2.2.2.2.2), [.bool (((addS h x p b z).1).s3.1)], [.int .i64 (((addS h x p b z).1).s3.2.1)], bv (((addS h x p b z).1).s3.2.2.1), bv (((addS h x p b z).1).s3.2.2.2.1), bv (((addS h x p b z).1).s3.2.2.2.2)] : List (List Value)).flatten.toArray from (by first | rfl | simp only [List.flatten_cons, List.flatten_nil, List.append_nil, List.append_assoc]))
      refine s_buildS [] hE rfl zero62 (by kernel_rfl) fpl62 (by first | (simp [PartsOk, Value.cells]; done) | (simp [PartsOk, Value.cells]; omega)) rfl ?_; clear hE a; intro a hE
      replace hE := hE.cast 42 rfl (show _ = Value.agg ([[.int .i64 0], [.int .i64 0], [.bool false], [.int .u64 0], bv (List.replicate 32 (0 : UInt8)), bv (List.replicate 32 (0 : UInt8)), [.bool false], [.int .u64 0], bv (List.replicate 32 (0 : UInt8)), bv (List.replicate 32 (0 : UInt8)), [.bool false], [.int .i64 0], bv (List.replicate 16 (0 : UInt8)), bv (List.replicate 32 (0 : UInt8)), bv (List.replicate 32 (0 : UInt8)), [.bool false], [.int .i64 0], bv (List.replicate 16 (0 : UInt8)), bv (List.replicate 32 (0 : UInt8)), bv (List.replicate 32 (0 : UInt8)), [.bool false], [.int .i64 0], bv (List.replicate 16 (0 : UInt8)), bv (List.replicate 32 (0 : UInt8)), bv (List.replicate 32 (0 : UInt8)), [.bool false], [.int .i64 0], bv (List.replicate 16 (0 : UInt8)), bv (List.replicate 32 (0 : UInt8)), bv (List.replicate 32 (0 : UInt8))] : List (List Value)).flatten.toArray from (by first | rfl | simp [setAll] | (simp only [setAll, List.set_cons_zero, List.set_cons_succ, List.flatten_cons, List.flatten_nil, List.append_nil, List.append_assoc, List.replicate_succ, List.replicate_zero])))
      refine s_bin hE rfl rfl ((eqk62 (b := decide (((((addS h x p b z).1).m) : Int) = 0 ∧ ((((addS h x p b z).1).r) : Int) = 0 ∧ (((addS h x p b z).1).v0.1) = false ∧ (((((addS h x p b z).1).v0.2.1 : Nat) : Int) : Int) = 0 ∧ (((addS h x p b z).1).v0.2.2.1) = (List.replicate 32 (0 : UInt8)) ∧ (((addS h x p b z).1).v0.2.2.2) = (List.replicate 32 (0 : UInt8)) ∧ (((addS h x p b z).1).v1.1) = false ∧ (((((addS h x p b z).1).v1.2.1 : Nat) : Int) : Int) = 0 ∧ (((addS h x p b z).1).v1.2.2.1) = (List.replicate 32 (0 : UInt8)) ∧ (((addS h x p b z).1).v1.2.2.2) = (List.replicate 32 (0 : UInt8)) ∧ (((addS h x p b z).1).s0.1) = false ∧ ((((addS h x p b z).1).s0.2.1) : Int) = 0 ∧ (((addS h x p b z).1).s0.2.2.1) = (List.replicate 16 (0 : UInt8)) ∧ (((addS h x p b z).1).s0.2.2.2.1) = (List.replicate 32 (0 : UInt8)) ∧ (((addS h x p b z).1).s0.2.2.2.2) = (List.replicate 32 (0 : UInt8)) ∧ (((addS h x p b z).1).s1.1) = false ∧ ((((addS h x p b z).1).s1.2.1) : Int) = 0 ∧ (((addS h x p b z).1).s1.2.2.1) = (List.replicate 16 (0 : UInt8)) ∧ (((addS h x p b z).1).s1.2.2.2.1) = (List.replicate 32 (0 : UInt8)) ∧ (((addS h x p b z).1).s1.2.2.2.2) = (List.replicate 32 (0 : UInt8)) ∧ (((addS h x p b z).1).s2.1) = false ∧ ((((addS h x p b z).1).s2.2.1) : Int) = 0 ∧ (((addS h x p b z).1).s2.2.2.1) = (List.replicate 16 (0 : UInt8)) ∧ (((addS h x p b z).1).s2.2.2.2.1) = (List.replicate 32 (0 : UInt8)) ∧ (((addS h x p b z).1).s2.2.2.2.2) = (List.replicate 32 (0 : UInt8)) ∧ (((addS h x p b z).1).s3.1) = false ∧ ((((addS h x p b z).1).s3.2.1) : Int) = 0 ∧ (((addS h x p b z).1).s3.2.2.1) = (List.replicate 16 (0 : UInt8)) ∧ (((addS h x p b z).1).s3.2.2.2.1) = (List.replicate 32 (0 : UInt8)) ∧ (((addS h x p b z).1).s3.2.2.2.2) = (List.replicate 32 (0 : UInt8)))) (klL62 (k := 0) (x0 := (((addS h x p b z).1).m)) (x1 := (((addS h x p b z).1).r)) (x2 := ((addS h x p b z).1).v0.1) (x3 := ((((addS h x p b z).1).v0.2.1 : Nat) : Int)) (x4 := ((addS h x p b z).1).v0.2.2.1) (x5 := ((addS h x p b z).1).v0.2.2.2) (x6 := ((addS h x p b z).1).v1.1) (x7 := ((((addS h x p b z).1).v1.2.1 : Nat) : Int)) (x8 := ((addS h x p b z).1).v1.2.2.1) (x9 := ((addS h x p b z).1).v1.2.2.2) (x10 := ((addS h x p b z).1).s0.1) (x11 := (((addS h x p b z).1).s0.2.1)) (x12 := ((addS h x p b z).1).s0.2.2.1) (x13 := ((addS h x p b z).1).s0.2.2.2.1) (x14 := ((addS h x p b z).1).s0.2.2.2.2) (x15 := ((addS h x p b z).1).s1.1) (x16 := (((addS h x p b z).1).s1.2.1)) (x17 := ((addS h x p b z).1).s1.2.2.1) (x18 := ((addS h x p b z).1).s1.2.2.2.1) (x19 := ((addS h x p b z).1).s1.2.2.2.2) (x20 := ((addS h x p b z).1).s2.1) (x21 := (((addS h x p b z).1).s2.2.1)) (x22 := ((addS h x p b z).1).s2.2.2.1) (x23 := ((addS h x p b z).1).s2.2.2.2.1) (x24 := ((addS h x p b z).1).s2.2.2.2.2) (x25 := ((addS h x p b z).1).s3.1) (x26 := (((addS h x p b z).1).s3.2.1)) (x27 := ((addS h x p b z).1).s3.2.2.1) (x28 := ((addS h x p b z).1).s3.2.2.2.1) (x29 := ((addS h x p b z).1).s3.2.2.2.2) (wf_i64 (addS_ok (h := h) (x := x) (p := p) (b := b) (z := z) hk_h (by first | assumption | decide | (unfold In64; omega)) (by have hl_ab : b.length = 16 := hl_b; first | assumption | (simp; done)) (by have hl_ax : x.length = 32 := hl_x; first | assumption | (simp; done))).m) (wf_i64 (addS_ok (h := h) (x := x) (p := p) (b := b) (z := z) hk_h (by first | assumption | decide | (unfold In64; omega)) (by have hl_ab : b.length = 16 := hl_b; first | assumption | (simp; done)) (by have hl_ax : x.length = 32 := hl_x; first | assumption | (simp; done))).r) (wf_u64 (addS_ok (h := h) (x := x) (p := p) (b := b) (z := z) hk_h (by first | assumption | decide | (unfold In64; omega)) (by have hl_ab : b.length = 16 := hl_b; first | assumption | (simp; done)) (by have hl_ax : x.length = 32 := hl_x; first | assumption | (simp; done))).v0.1) (addS_ok (h := h) (x := x) (p := p) (b := b) (z := z) hk_h (by first | assumption | decide | (unfold In64; omega)) (by have hl_ab : b.length = 16 := hl_b; first | assumption | (simp; done)) (by have hl_ax : x.length = 32 := hl_x; first | assumption | (simp; done))).v0.2.1 (addS_ok (h := h) (x := x) (p := p) (b := b) (z := z) hk_h (by first | assumption | decide | (unfold In64; omega)) (by have hl_ab : b.length = 16 := hl_b; first | assumption | (simp; done)) (by have hl_ax : x.length = 32 := hl_x; first | assumption | (simp; done))).v0.2.2 (wf_u64 (addS_ok (h := h) (x := x) (p := p) (b := b) (z := z) hk_h (by first | assumption | decide | (unfold In64; omega)) (by have hl_ab : b.length = 16 := hl_b; first | assumption | (simp; done)) (by have hl_ax : x.length = 32 := hl_x; first | assumption | (simp; done))).v1.1) (addS_ok (h := h) (x := x) (p := p) (b := b) (z := z) hk_h (by first | assumption | decide | (unfold In64; omega)) (by have hl_ab : b.length = 16 := hl_b; first | assumption | (simp; done)) (by have hl_ax : x.length = 32 := hl_x; first | assumption | (simp; done))).v1.2.1 (addS_ok (h := h) (x := x) (p := p) (b := b) (z := z) hk_h (by first | assumption | decide | (unfold In64; omega)) (by have hl_ab : b.length = 16 := hl_b; first | assumption | (simp; done)) (by have hl_ax : x.length = 32 := hl_x; first | assumption | (simp; done))).v1.2.2 (wf_i64 (addS_ok (h := h) (x := x) (p := p) (b := b) (z := z) hk_h (by first | assumption | decide | (unfold In64; omega)) (by have hl_ab : b.length = 16 := hl_b; first | assumption | (simp; done)) (by have hl_ax : x.length = 32 := hl_x; first | assumption | (simp; done))).s0.1) (addS_ok (h := h) (x := x) (p := p) (b := b) (z := z) hk_h (by first | assumption | decide | (unfold In64; omega)) (by have hl_ab : b.length = 16 := hl_b; first | assumption | (simp; done)) (by have hl_ax : x.length = 32 := hl_x; first | assumption | (simp; done))).s0.2.1 (addS_ok (h := h) (x := x) (p := p) (b := b) (z := z) hk_h (by first | assumption | decide | (unfold In64; omega)) (by have hl_ab : b.length = 16 := hl_b; first | assumption | (simp; done)) (by have hl_ax : x.length = 32 := hl_x; first | assumption | (simp; done))).s0.2.2.1 (addS_ok (h := h) (x := x) (p := p) (b := b) (z := z) hk_h (by first | assumption | decide | (unfold In64; omega)) (by have hl_ab : b.length = 16 := hl_b; first | assumption | (simp; done)) (by have hl_ax : x.length = 32 := hl_x; first | assumption | (simp; done))).s0.2.2.2 (wf_i64 (addS_ok (h := h) (x := x) (p := p) (b := b) (z := z) hk_h (by first | assumption | decide | (unfold In64; omega)) (by have hl_ab : b.length = 16 := hl_b; first | assumption | (simp; done)) (by have hl_ax : x.length = 32 := hl_x; first | assumption | (simp; done))).s1.1) (addS_ok (h := h) (x := x) (p := p) (b := b) (z := z) hk_h (by first | assumption | decide | (unfold In64; omega)) (by have hl_ab : b.length = 16 := hl_b; first | assumption | (simp; done)) (by have hl_ax : x.length = 32 := hl_x; first | assumption | (simp; done))).s1.2.1 (addS_ok (h := h) (x := x) (p := p) (b := b) (z := z) hk_h (by first | assumption | decide | (unfold In64; omega)) (by have hl_ab : b.length = 16 := hl_b; first | assumption | (simp; done)) (by have hl_ax : x.length = 32 := hl_x; first | assumption | (simp; done))).s1.2.2.1 (addS_ok (h := h) (x := x) (p := p) (b := b) (z := z) hk_h (by first | assumption | decide | (unfold In64; omega)) (by have hl_ab : b.length = 16 := hl_b; first | assumption | (simp; done)) (by have hl_ax : x.length = 32 := hl_x; first | assumption | (simp; done))).s1.2.2.2 (wf_i64 (addS_ok (h := h) (x := x) (p := p) (b := b) (z := z) hk_h (by first | assumption | decide | (unfold In64; omega)) (by have hl_ab : b.length = 16 := hl_b; first | assumption | (simp; done)) (by have hl_ax : x.length = 32 := hl_x; first | assumption | (simp; done))).s2.1) (addS_ok (h := h) (x := x) (p := p) (b := b) (z := z) hk_h (by first | assumption | decide | (unfold In64; omega)) (by have hl_ab : b.length = 16 := hl_b; first | assumption | (simp; done)) (by have hl_ax : x.length = 32 := hl_x; first | assumption | (simp; done))).s2.2.1 (addS_ok (h := h) (x := x) (p := p) (b := b) (z := z) hk_h (by first | assumption | decide | (unfold In64; omega)) (by have hl_ab : b.length = 16 := hl_b; first | assumption | (simp; done)) (by have hl_ax : x.length = 32 := hl_x; first | assumption | (simp; done))).s2.2.2.1 (addS_ok (h := h) (x := x) (p := p) (b := b) (z := z) hk_h (by first | assumption | decide | (unfold In64; omega)) (by have hl_ab : b.length = 16 := hl_b; first | assumption | (simp; done)) (by have hl_ax : x.length = 32 := hl_x; first | assumption | (simp; done))).s2.2.2.2 (wf_i64 (addS_ok (h := h) (x := x) (p := p) (b := b) (z := z) hk_h (by first | assumption | decide | (unfold In64; omega)) (by have hl_ab : b.length = 16 := hl_b; first | assumption | (simp; done)) (by have hl_ax : x.length = 32 := hl_x; first | assumption | (simp; done))).s3.1) (addS_ok (h := h) (x := x) (p := p) (b := b) (z := z) hk_h (by first | assumption | decide | (unfold In64; omega)) (by have hl_ab : b.length = 16 := hl_b; first | assumption | (simp; done)) (by have hl_ax : x.length = 32 := hl_x; first | assumption | (simp; done))).s3.2.1 (addS_ok (h := h) (x := x) (p := p) (b := b) (z := z) hk_h (by first | assumption | decide | (unfold In64; omega)) (by have hl_ab : b.length = 16 := hl_b; first | assumption | (simp; done)) (by have hl_ax : x.length = 32 := hl_x; first | assumption | (simp; done))).s3.2.2.1 (addS_ok (h := h) (x := x) (p := p) (b := b) (z := z) hk_h (by first | assumption | decide | (unfold In64; omega)) (by have hl_ab : b.length = 16 := hl_b; first | assumption | (simp; done)) (by have hl_ax : x.length = 32 := hl_x; first | assumption | (simp; done))).s3.2.2.2) (klL62 (k := 0) (x0 := 0) (x1 := 0) (x2 := false) (x3 := 0) (x4 := List.replicate 32 (0 : UInt8)) (x5 := List.replicate 32 (0 : UInt8)) (x6 := false) (x7 := 0) (x8 := List.replicate 32 (0 : UInt8)) (x9 := List.replicate 32 (0 : UInt8)) (x10 := false) (x11 := 0) (x12 := List.replicate 16 (0 : UInt8)) (x13 := List.replicate 32 (0 : UInt8)) (x14 := List.replicate 32 (0 : UInt8)) (x15 := false) (x16 := 0) (x17 := List.replicate 16 (0 : UInt8)) (x18 := List.replicate 32 (0 : UInt8)) (x19 := List.replicate 32 (0 : UInt8)) (x20 := false) (x21 := 0) (x22 := List.replicate 16 (0 : UInt8)) (x23 := List.replicate 32 (0 : UInt8)) (x24 := List.replicate 32 (0 : UInt8)) (x25 := false) (x26 := 0) (x27 := List.replicate 16 (0 : UInt8)) (x28 := List.replicate 32 (0 : UInt8)) (x29 := List.replicate 32 (0 : UInt8)) (by simp [Lit.wf, IntKind.min, IntKind.max, IntKind.signed, IntKind.bits]; try omega) (by simp [Lit.wf, IntKind.min, IntKind.max, IntKind.signed, IntKind.bits]; try omega) (by simp [Lit.wf, IntKind.min, IntKind.max, IntKind.signed, IntKind.bits]; try omega) List.length_replicate List.length_replicate (by simp [Lit.wf, IntKind.min, IntKind.max, IntKind.signed, IntKind.bits]; try omega) List.length_replicate List.length_replicate (by simp [Lit.wf, IntKind.min, IntKind.max, IntKind.signed, IntKind.bits]; try omega) List.length_replicate List.length_replicate List.length_replicate (by simp [Lit.wf, IntKind.min, IntKind.max, IntKind.signed, IntKind.bits]; try omega) List.length_replicate List.length_replicate List.length_replicate (by simp [Lit.wf, IntKind.min, IntKind.max, IntKind.signed, IntKind.bits]; try omega) List.length_replicate List.length_replicate List.length_replicate (by simp [Lit.wf, IntKind.min, IntKind.max, IntKind.signed, IntKind.bits]; try omega) List.length_replicate List.length_replicate List.length_replicate) (by rw [flat_eq (by have hl_x4 : (((addS h x p b z).1).v0.2.2.1).length = 32 := (addS_ok (h := h) (x := x) (p := p) (b := b) (z := z) hk_h (by first | assumption | decide | (unfold In64; omega)) (by have hl_ab : b.length = 16 := hl_b; first | assumption | (simp; done)) (by have hl_ax : x.length = 32 := hl_x; first | assumption | (simp; done))).v0.2.1; have hl_x5 : (((addS h x p b z).1).v0.2.2.2).length = 32 := (addS_ok (h := h) (x := x) (p := p) (b := b) (z := z) hk_h (by first | assumption | decide | (unfold In64; omega)) (by have hl_ab : b.length = 16 := hl_b; first | assumption | (simp; done)) (by have hl_ax : x.length = 32 := hl_x; first | assumption | (simp; done))).v0.2.2; have hl_x8 : (((addS h x p b z).1).v1.2.2.1).length = 32 := (addS_ok (h := h) (x := x) (p := p) (b := b) (z := z) hk_h (by first | assumption | decide | (unfold In64; omega)) (by have hl_ab : b.length = 16 := hl_b; first | assumption | (simp; done)) (by have hl_ax : x.length = 32 := hl_x; first | assumption | (simp; done))).v1.2.1; have hl_x9 : (((addS h x p b z).1).v1.2.2.2).length = 32 := (addS_ok (h := h) (x := x) (p := p) (b := b) (z := z) hk_h (by first | assumption | decide | (unfold In64; omega)) (by have hl_ab : b.length = 16 := hl_b; first | assumption | (simp; done)) (by have hl_ax : x.length = 32 := hl_x; first | assumption | (simp; done))).v1.2.2; have hl_x12 : (((addS h x p b z).1).s0.2.2.1).length = 16 := (addS_ok (h := h) (x := x) (p := p) (b := b) (z := z) hk_h (by first | assumption | decide | (unfold In64; omega)) (by have hl_ab : b.length = 16 := hl_b; first | assumption | (simp; done)) (by have hl_ax : x.length = 32 := hl_x; first | assumption | (simp; done))).s0.2.1; have hl_x13 : (((addS h x p b z).1).s0.2.2.2.1).length = 32 := (addS_ok (h := h) (x := x) (p := p) (b := b) (z := z) hk_h (by first | assumption | decide | (unfold In64; omega)) (by have hl_ab : b.length = 16 := hl_b; first | assumption | (simp; done)) (by have hl_ax : x.length = 32 := hl_x; first | assumption | (simp; done))).s0.2.2.1; have hl_x14 : (((addS h x p b z).1).s0.2.2.2.2).length = 32 := (addS_ok (h := h) (x := x) (p := p) (b := b) (z := z) hk_h (by first | assumption | decide | (unfold In64; omega)) (by have hl_ab : b.length = 16 := hl_b; first | assumption | (simp; done)) (by have hl_ax : x.length = 32 := hl_x; first | assumption | (simp; done))).s0.2.2.2; have hl_x17 : (((addS h x p b z).1).s1.2.2.1).length = 16 := (addS_ok (h := h) (x := x) (p := p) (b := b) (z := z) hk_h (by first | assumption | decide | (unfold In64; omega)) (by have hl_ab : b.length = 16 := hl_b; first | assumption | (simp; done)) (by have hl_ax : x.length = 32 := hl_x; first | assumption | (simp; done))).s1.2.1; have hl_x18 : (((addS h x p b z).1).s1.2.2.2.1).length = 32 := (addS_ok (h := h) (x := x) (p := p) (b := b) (z := z) hk_h (by first | assumption | decide | (unfold In64; omega)) (by have hl_ab : b.length = 16 := hl_b; first | assumption | (simp; done)) (by have hl_ax : x.length = 32 := hl_x; first | assumption | (simp; done))).s1.2.2.1; have hl_x19 : (((addS h x p b z).1).s1.2.2.2.2).length = 32 := (addS_ok (h := h) (x := x) (p := p) (b := b) (z := z) hk_h (by first | assumption | decide | (unfold In64; omega)) (by have hl_ab : b.length = 16 := hl_b; first | assumption | (simp; done)) (by have hl_ax : x.length = 32 := hl_x; first | assumption | (simp; done))).s1.2.2.2; have hl_x22 : (((addS h x p b z).1).s2.2.2.1).length = 16 := (addS_ok (h := h) (x := x) (p := p) (b := b) (z := z) hk_h (by first | assumption | decide | (unfold In64; omega)) (by have hl_ab : b.length = 16 := hl_b; first | assumption | (simp; done)) (by have hl_ax : x.length = 32 := hl_x; first | assumption | (simp; done))).s2.2.1; have hl_x23 : (((addS h x p b z).1).s2.2.2.2.1).length = 32 := (addS_ok (h := h) (x := x) (p := p) (b := b) (z := z) hk_h (by first | assumption | decide | (unfold In64; omega)) (by have hl_ab : b.length = 16 := hl_b; first | assumption | (simp; done)) (by have hl_ax : x.length = 32 := hl_x; first | assumption | (simp; done))).s2.2.2.1; have hl_x24 : (((addS h x p b z).1).s2.2.2.2.2).length = 32 := (addS_ok (h := h) (x := x) (p := p) (b := b) (z := z) hk_h (by first | assumption | decide | (unfold In64; omega)) (by have hl_ab : b.length = 16 := hl_b; first | assumption | (simp; done)) (by have hl_ax : x.length = 32 := hl_x; first | assumption | (simp; done))).s2.2.2.2; have hl_x27 : (((addS h x p b z).1).s3.2.2.1).length = 16 := (addS_ok (h := h) (x := x) (p := p) (b := b) (z := z) hk_h (by first | assumption | decide | (unfold In64; omega)) (by have hl_ab : b.length = 16 := hl_b; first | assumption | (simp; done)) (by have hl_ax : x.length = 32 := hl_x; first | assumption | (simp; done))).s3.2.1; have hl_x28 : (((addS h x p b z).1).s3.2.2.2.1).length = 32 := (addS_ok (h := h) (x := x) (p := p) (b := b) (z := z) hk_h (by first | assumption | decide | (unfold In64; omega)) (by have hl_ab : b.length = 16 := hl_b; first | assumption | (simp; done)) (by have hl_ax : x.length = 32 := hl_x; first | assumption | (simp; done))).s3.2.2.1; have hl_x29 : (((addS h x p b z).1).s3.2.2.2.2).length = 32 := (addS_ok (h := h) (x := x) (p := p) (b := b) (z := z) hk_h (by first | assumption | decide | (unfold In64; omega)) (by have hl_ab : b.length = 16 := hl_b; first | assumption | (simp; done)) (by have hl_ax : x.length = 32 := hl_x; first | assumption | (simp; done))).s3.2.2.2; have hl_y4 : (List.replicate 32 (0 : UInt8)).length = 32 := List.length_replicate; have hl_y5 : (List.replicate 32 (0 : UInt8)).length = 32 := List.length_replicate; have hl_y8 : (List.replicate 32 (0 : UInt8)).length = 32 := List.length_replicate; have hl_y9 : (List.replicate 32 (0 : UInt8)).length = 32 := List.length_replicate; have hl_y12 : (List.replicate 16 (0 : UInt8)).length = 16 := List.length_replicate; have hl_y13 : (List.replicate 32 (0 : UInt8)).length = 32 := List.length_replicate; have hl_y14 : (List.replicate 32 (0 : UInt8)).length = 32 := List.length_replicate; have hl_y17 : (List.replicate 16 (0 : UInt8)).length = 16 := List.length_replicate; have hl_y18 : (List.replicate 32 (0 : UInt8)).length = 32 := List.length_replicate; have hl_y19 : (List.replicate 32 (0 : UInt8)).length = 32 := List.length_replicate; have hl_y22 : (List.replicate 16 (0 : UInt8)).length = 16 := List.length_replicate; have hl_y23 : (List.replicate 32 (0 : UInt8)).length = 32 := List.length_replicate; have hl_y24 : (List.replicate 32 (0 : UInt8)).length = 32 := List.length_replicate; have hl_y27 : (List.replicate 16 (0 : UInt8)).length = 16 := List.length_replicate; have hl_y28 : (List.replicate 32 (0 : UInt8)).length = 32 := List.length_replicate; have hl_y29 : (List.replicate 32 (0 : UInt8)).length = 32 := List.length_replicate; simp only [List.map_cons, List.map_nil, bv_length, List.length_cons, List.length_nil, hl_x4, hl_x5, hl_x8, hl_x9, hl_x12, hl_x13, hl_x14, hl_x17, hl_x18, hl_x19, hl_x22, hl_x23, hl_x24, hl_x27, hl_x28, hl_x29, hl_y4, hl_y5, hl_y8, hl_y9, hl_y12, hl_y13, hl_y14, hl_y17, hl_y18, hl_y19, hl_y22, hl_y23, hl_y24, hl_y27, hl_y28, hl_y29])]; simp [bv_iff, Int.ofNat_inj]; try omega)).1) rfl ?_; clear hE a; intro a hE
      refine s_move hE rfl rfl ?_; clear hE a; intro a hE
      replace hE := hE.cast 44 rfl (show _ = Value.bool true from (congrArg Value.bool (by rw [e1]; decide +kernel)))
      refine g_yes hE rfl rfl ?_
      refine s_move hE rfl rfl ?_; clear hE a; intro a hE
      refine g_yes hE rfl rfl ?_
      refine s_bin hE rfl rfl bin_eql rfl ?_; clear hE a; intro a hE
      refine s_pickt hE rfl rfl rfl ?_; clear hE a; intro a hE
      refine s_move hE rfl rfl ?_; clear hE a; intro a hE
      replace hE := hE.cast 48 rfl (show _ = Value.bool true from (congrArg Value.bool (by rw [e2]; rfl)))
      refine g_yes hE rfl rfl ?_
      refine s_call hE rfl Tryd.call28 (awake25_c  _ (hM.get 3 rfl) (hM.get 4 rfl)) rfl ?_
      rintro e w7 ⟨rfl, hN⟩
      refine ⟨_, rfl, trivial, ?_⟩; clear hE a; intro a hE
      replace hM : Mem _ _ w7 [_, _, _, _, _] := hM.call0 hN trivial; clear hN
      refine s_pickt hE rfl rfl rfl ?_; clear hE a; intro a hE
      refine s_assign hE rfl rfl ?_; clear hE a; intro a hE
      refine q_nil ?_
      replace hE : Env a 135 [(2, _), (3, _), (4, _), (6, _), (7, _), (8, _), (23, _), (40, _)] := hE.sel [2, 3, 4, 6, 7, 8, 23, 40] rfl
      refine hK7 _ _ ?_
      refine wp_ret ?_
      refine q_then_r ?_
      refine f_ret1 hE rfl rfl ?_
      exact ⟨(by first | rfl | (simp; done)), hM.pick [] rfl⟩
    · replace hE := hE'; clear hE'
      replace hb40 := of_decide_eq_true (not_false' hb40)
      replace hb40 : ((addS h x p b z).2.2) = 0 := by omega
      obtain ⟨j, hj4, hat, hu1, hr1, hr2, hr3, hr4⟩ := open_add hl_x (show (addS h x p b z).2.2 = 0 by omega)
      replace hE := hE.cast 8 rfl (show _ = Value.int .i64 (j : Int) from congrArg (Value.int .i64) hat)
      refine wp_cond_false (hE.eval rfl) ?_
      refine wp_skip ?_
      refine hK5 _ _ ?_
      refine wp_seq_k (fun K7 hK7 => ?_)
      refine wp_plain [true, true, true, false, true, true, true, true, false, false, true, true] rfl rfl ?_
      refine s_loadN hE rfl (hM.get 0 rfl) row62 rfl (by intro X h; cases h) rfl ?_; clear hE a; intro a hE
      replace hE := hE.cast 52 rfl (show _ = Value.agg ([[.int .i64 (((addS h x p b z).1).m)], [.int .i64 (((addS h x p b z).1).r)], [.bool (((addS h x p b z).1).v0.1)], [.int .u64 ((((addS h x p b z).1).v0.2.1 : Nat) : Int)], bv (((addS h x p b z).1).v0.2.2.1), bv (((addS h x p b z).1).v0.2.2.2), [.bool (((addS h x p b z).1).v1.1)], [.int .u64 ((((addS h x p b z).1).v1.2.1 : Nat) : Int)], bv (((addS h x p b z).1).v1.2.2.1), bv (((addS h x p b z).1).v1.2.2.2), [.bool (((addS h x p b z).1).s0.1)], [.int .i64 (((addS h x p b z).1).s0.2.1)], bv (((addS h x p b z).1).s0.2.2.1), bv (((addS h x p b z).1).s0.2.2.2.1), bv (((addS h x p b z).1).s0.2.2.2.2), [.bool (((addS h x p b z).1).s1.1)], [.int .i64 (((addS h x p b z).1).s1.2.1)], bv (((addS h x p b z).1).s1.2.2.1), bv (((addS h x p b z).1).s1.2.2.2.1), bv (((addS h x p b z).1).s1.2.2.2.2), [.bool (((addS h x p b z).1).s2.1)], [.int .i64 (((addS h x p b z).1).s2.2.1)], bv (((addS h x p b z).1).s2.2.2.1), bv (((addS h x p b z).1).s2.2.2.2.1), bv (((addS h x p b z).1).s2.2.2.2.2), [.bool (((addS h x p b z).1).s3.1)], [.int .i64 (((addS h x p b z).1).s3.2.1)], bv (((addS h x p b z).1).s3.2.2.1), bv (((addS h x p b z).1).s3.2.2.2.1), bv (((addS h x p b z).1).s3.2.2.2.2)] : List (List Value)).flatten.toArray from (by first | rfl | simp only [List.flatten_cons, List.flatten_nil, List.append_nil, List.append_assoc]))
      refine s_fieldAddr hE rfl fo84_1 rfl ?_; clear hE a; intro a hE
      refine s_load1 hE rfl (hM.get 1 rfl) rfl one9 (by intro X h; cases h) rfl ?_; clear hE a; intro a hE
      refine s_call hE rfl Tryd.call29 ((by have h := unlock_c (addS h x p b z).1 p _ (hM.get 3 rfl) (hM.get 4 rfl) (addS_ok (h := h) (x := x) (p := p) (b := b) (z := z) hk_h hz hl_b hl_x); rw [hu1] at h; dsimp only at h; exact h)) rfl ?_
      rintro e w7 ⟨rfl, hN⟩
      refine ⟨_, rfl, trivial, ?_⟩; clear hE a; intro a hE
      replace hM : Mem _ _ w7 [_, _, _, _, _] := hM.call0 hN trivial; clear hN
      refine s_move hE rfl rfl ?_; clear hE a; intro a hE
      refine s_extract hE rfl rfl rfl ?_; clear hE a; intro a hE
      refine s_extract hE rfl rfl rfl ?_; clear hE a; intro a hE
      refine s_extract hE rfl rfl rfl ?_; clear hE a; intro a hE
      refine s_alloc [32] hE hM zero23 rfl rfl ?_; clear hE a; intro a b10 w8 hE hM'
      clear hM; have hM := hM'; clear hM'
      refine s_storeSeg 0 hE rfl rfl hM rfl sz23 ((bv_length _).trans hl_x) (bv_one _) rfl ((bv_length _).trans (by first | (simp; done) | (simp [*]; done) | (simp; omega))) rfl (by intro X h; cases h) ?_; intro w9 hM'; clear hM; have hM := hM'; clear hM'
      simp only [List.set_cons_zero, List.set_cons_succ] at hM
      refine s_assign hE rfl rfl ?_; clear hE a; intro a hE
      refine s_assign hE rfl rfl ?_; clear hE a; intro a hE
      refine q_nil ?_
      replace hE : Env a 135 [(2, _), (3, _), (4, _), (6, _), (7, _), (8, _), (10, _), (11, _), (12, _), (23, _), (40, _)] := hE.sel [2, 3, 4, 6, 7, 8, 10, 11, 12, 23, 40] rfl
      refine hK7 _ _ ?_
      refine wp_seq_k (fun K8 hK8 => ?_)
      refine wp_seq_k (fun K9 hK9 => ?_)
      refine wp_plain [true, true, true, true, true, true, true, true, true, true, true, true, true] rfl rfl ?_
      refine s_move hE rfl rfl ?_; clear hE a; intro a hE
      refine s_bin hE rfl rfl bin_neq rfl ?_; clear hE a; intro a hE
      replace hE := hE.cast 60 rfl (show _ = Value.bool false from (congrArg Value.bool (by decide)))
      refine s_move hE rfl rfl ?_; clear hE a; intro a hE
      refine g_yes hE rfl rfl ?_
      refine s_move hE rfl rfl ?_; clear hE a; intro a hE
      refine g_yes hE rfl rfl ?_
      refine s_move hE rfl rfl ?_; clear hE a; intro a hE
      refine g_yes hE rfl rfl ?_
      refine s_bin hE rfl rfl bin_neq rfl ?_; clear hE a; intro a hE
      refine s_pickf hE rfl rfl rfl ?_; clear hE a; intro a hE
      refine s_move hE rfl rfl ?_; clear hE a; intro a hE
      replace hE := hE.cast 66 rfl (show _ = Value.bool false from (congrArg Value.bool (by first | (with_reducible rfl) | (simp; done))))
      refine g_yes hE rfl rfl ?_
      refine s_loadN hE rfl (hM.get 0 rfl) row23 rfl (by intro X h; cases h) rfl ?_; clear hE a; intro a hE
      refine g_yes hE rfl rfl ?_
      refine s_fieldAddr hE rfl fo84_0 rfl ?_; clear hE a; intro a hE
      refine g_yes hE rfl rfl ?_
      refine s_loadN hE rfl (hM.get 2 rfl) row23 rfl (by intro X h; cases h) rfl ?_; clear hE a; intro a hE
      refine g_yes hE rfl rfl ?_
      refine s_bin hE rfl rfl (eqa23 hl_x hl_x).2 rfl ?_; clear hE a; intro a hE
      refine s_pickf hE rfl rfl rfl ?_; clear hE a; intro a hE
      refine q_nil ?_
      replace hE : Env a 135 [(2, _), (3, _), (4, _), (6, _), (7, _), (8, _), (10, _), (11, _), (12, _), (23, _), (40, _), (71, _)] := hE.sel [2, 3, 4, 6, 7, 8, 10, 11, 12, 23, 40, 71] rfl
      refine hK9 _ _ ?_
      replace hE := hE.cast 71 rfl (show _ = Value.bool false from (congrArg Value.bool (by first | (with_reducible rfl) | (simp; done))))
      refine wp_cond_false (hE.eval rfl) ?_
      refine wp_skip ?_
      refine hK8 _ _ ?_
      refine wp_seq_k (fun K10 hK10 => ?_)
      refine wp_plain [true, true, false, true, true, true, false, false, true] rfl rfl ?_
      refine s_loadN hE rfl (hM.get 1 rfl) row62 rfl (by intro X h; cases h) rfl ?_; clear hE a; intro a hE
      replace hE := hE.cast 73 rfl (show _ = Value.agg ([[.int .i64 (((addS h x p b z).1).m)], [.int .i64 (((addS h x p b z).1).r)], [.bool (((addS h x p b z).1).v0.1)], [.int .u64 ((((addS h x p b z).1).v0.2.1 : Nat) : Int)], bv (((addS h x p b z).1).v0.2.2.1), bv (((addS h x p b z).1).v0.2.2.2), [.bool (((addS h x p b z).1).v1.1)], [.int .u64 ((((addS h x p b z).1).v1.2.1 : Nat) : Int)], bv (((addS h x p b z).1).v1.2.2.1), bv (((addS h x p b z).1).v1.2.2.2), [.bool (((addS h x p b z).1).s0.1)], [.int .i64 (((addS h x p b z).1).s0.2.1)], bv (((addS h x p b z).1).s0.2.2.1), bv (((addS h x p b z).1).s0.2.2.2.1), bv (((addS h x p b z).1).s0.2.2.2.2), [.bool (((addS h x p b z).1).s1.1)], [.int .i64 (((addS h x p b z).1).s1.2.1)], bv (((addS h x p b z).1).s1.2.2.1), bv (((addS h x p b z).1).s1.2.2.2.1), bv (((addS h x p b z).1).s1.2.2.2.2), [.bool (((addS h x p b z).1).s2.1)], [.int .i64 (((addS h x p b z).1).s2.2.1)], bv (((addS h x p b z).1).s2.2.2.1), bv (((addS h x p b z).1).s2.2.2.2.1), bv (((addS h x p b z).1).s2.2.2.2.2), [.bool (((addS h x p b z).1).s3.1)], [.int .i64 (((addS h x p b z).1).s3.2.1)], bv (((addS h x p b z).1).s3.2.2.1), bv (((addS h x p b z).1).s3.2.2.2.1), bv (((addS h x p b z).1).s3.2.2.2.2)] : List (List Value)).flatten.toArray from (by first | rfl | simp only [List.flatten_cons, List.flatten_nil, List.append_nil, List.append_assoc]))
      refine s_move hE rfl rfl ?_; clear hE a; intro a hE
      refine s_call hE rfl Tryd.call32 ((by have h := fun w : World => rem_c (addS h x p b z).1 (j : Int) w (addS_ok (h := h) (x := x) (p := p) (b := b) (z := z) hk_h hz hl_b hl_x); simp only [hr1] at h; exact h _)) rfl ?_
      rintro e w10 ⟨rfl, hN⟩
      refine ⟨_, rfl, trivial, ?_⟩; clear hE a; intro a hE
      replace hM : Mem _ _ w10 [_, _, _, _, _, _] := hM.call0 hN trivial; clear hN
      refine s_move hE rfl rfl ?_; clear hE a; intro a hE
      refine s_extract hE rfl rfl rfl ?_; clear hE a; intro a hE
      refine s_extract hE rfl rfl rfl ?_; clear hE a; intro a hE
      refine s_alloc [1, 1, 1, 1, 32, 32, 1, 1, 32, 32, 1, 1, 16, 32, 32, 1, 1, 16, 32, 32, 1, 1, 16, 32, 32, 1, 1, 16, 32, 32] hE hM zeroL62 rfl rfl ?_; clear hE a; intro a b13 w11 hE hM'
      clear hM; have hM := hM'; clear hM'
      have hsl239_4 : h.v0.2.2.1.length = 32 := hk_h.v0.2.1
      have hsl239_5 : h.v0.2.2.2.length = 32 := hk_h.v0.2.2
      have hsl239_8 : h.v1.2.2.1.length = 32 := hk_h.v1.2.1
      have hsl239_9 : h.v1.2.2.2.length = 32 := hk_h.v1.2.2
      have hsl239_12 : h.s0.2.2.1.length = 16 := hk_h.s0.2.1
      have hsl239_13 : h.s0.2.2.2.1.length = 32 := hk_h.s0.2.2.1
      have hsl239_14 : h.s0.2.2.2.2.length = 32 := hk_h.s0.2.2.2
      have hsl239_17 : h.s1.2.2.1.length = 16 := hk_h.s1.2.1
      have hsl239_18 : h.s1.2.2.2.1.length = 32 := hk_h.s1.2.2.1
      have hsl239_19 : h.s1.2.2.2.2.length = 32 := hk_h.s1.2.2.2
      have hsl239_22 : h.s2.2.2.1.length = 16 := hk_h.s2.2.1
      have hsl239_23 : h.s2.2.2.2.1.length = 32 := hk_h.s2.2.2.1
      have hsl239_24 : h.s2.2.2.2.2.length = 32 := hk_h.s2.2.2.2
      have hsl239_27 : h.s3.2.2.1.length = 16 := hk_h.s3.2.1
      have hsl239_28 : h.s3.2.2.2.1.length = 32 := hk_h.s3.2.2.1
      have hsl239_29 : h.s3.2.2.2.2.length = 32 := hk_h.s3.2.2.2
      refine s_storeSegs 0 30 (vss := [[.int .i64 h.m], [.int .i64 h.r], [.bool h.v0.1], [.int .u64 ((h.v0.2.1 : Nat) : Int)], bv h.v0.2.2.1, bv h.v0.2.2.2, [.bool h.v1.1], [.int .u64 ((h.v1.2.1 : Nat) : Int)], bv h.v1.2.2.1, bv h.v1.2.2.2, [.bool h.s0.1], [.int .i64 h.s0.2.1], bv h.s0.2.2.1, bv h.s0.2.2.2.1, bv h.s0.2.2.2.2, [.bool h.s1.1], [.int .i64 h.s1.2.1], bv h.s1.2.2.1, bv h.s1.2.2.2.1, bv h.s1.2.2.2.2, [.bool h.s2.1], [.int .i64 h.s2.2.1], bv h.s2.2.2.1, bv h.s2.2.2.2.1, bv h.s2.2.2.2.2, [.bool h.s3.1], [.int .i64 h.s3.2.1], bv h.s3.2.2.1, bv h.s3.2.2.2.1, bv h.s3.2.2.2.2]) hE rfl rfl hM rfl sz62 (by simp only [List.take_succ_cons, List.take_zero, List.drop_zero, List.drop_succ_cons]; simp only [List.map_cons, List.map_nil, bv_length, List.length_cons, List.length_nil, List.length_replicate, hsl239_4, hsl239_5, hsl239_8, hsl239_9, hsl239_12, hsl239_13, hsl239_14, hsl239_17, hsl239_18, hsl239_19, hsl239_22, hsl239_23, hsl239_24, hsl239_27, hsl239_28, hsl239_29]) (by decide) rfl (one_fl ⟨one1 rfl, one1 rfl, one1 rfl, one1 rfl, bv_one _, bv_one _, one1 rfl, one1 rfl, bv_one _, bv_one _, one1 rfl, one1 rfl, bv_one _, bv_one _, bv_one _, one1 rfl, one1 rfl, bv_one _, bv_one _, bv_one _, one1 rfl, one1 rfl, bv_one _, bv_one _, bv_one _, one1 rfl, one1 rfl, bv_one _, bv_one _, bv_one _, trivial⟩) rfl (by intro X h; cases h) ?_; intro w12 hM'; clear hM; have hM := hM'; clear hM'
      try simp only [List.take_zero, List.take_succ_cons, List.drop_zero, List.drop_succ_cons, List.take_nil, List.drop_nil, List.nil_append, List.append_nil, List.cons_append] at hM
      refine s_assign hE rfl rfl ?_; clear hE a; intro a hE
      refine q_nil ?_
      replace hE : Env a 135 [(2, _), (3, _), (4, _), (6, _), (7, _), (8, _), (10, _), (11, _), (12, _), (13, _), (14, _), (23, _), (40, _), (71, _)] := hE.sel [2, 3, 4, 6, 7, 8, 10, 11, 12, 13, 14, 23, 40, 71] rfl
      refine hK10 _ _ ?_
      refine wp_seq_k (fun K11 hK11 => ?_)
      refine wp_seq_k (fun K12 hK12 => ?_)
      refine wp_plain [true, true, true, true, true, true, true] rfl rfl ?_
      refine s_move hE rfl rfl ?_; clear hE a; intro a hE
      refine s_bin hE rfl rfl bin_neq rfl ?_; clear hE a; intro a hE
      replace hE := hE.cast 79 rfl (show _ = Value.bool false from (congrArg Value.bool (by decide)))
      refine s_move hE rfl rfl ?_; clear hE a; intro a hE
      refine g_yes hE rfl rfl ?_
      refine s_loadN hE rfl (hM.get 0 rfl) row62 rfl (by intro X h; cases h) rfl ?_; clear hE a; intro a hE
      replace hE := hE.cast 81 rfl (show _ = Value.agg ([[.int .i64 h.m], [.int .i64 h.r], [.bool h.v0.1], [.int .u64 ((h.v0.2.1 : Nat) : Int)], bv h.v0.2.2.1, bv h.v0.2.2.2, [.bool h.v1.1], [.int .u64 ((h.v1.2.1 : Nat) : Int)], bv h.v1.2.2.1, bv h.v1.2.2.2, [.bool h.s0.1], [.int .i64 h.s0.2.1], bv h.s0.2.2.1, bv h.s0.2.2.2.1, bv h.s0.2.2.2.2, [.bool h.s1.1], [.int .i64 h.s1.2.1], bv h.s1.2.2.1, bv h.s1.2.2.2.1, bv h.s1.2.2.2.2, [.bool h.s2.1], [.int .i64 h.s2.2.1], bv h.s2.2.2.1, bv h.s2.2.2.2.1, bv h.s2.2.2.2.2, [.bool h.s3.1], [.int .i64 h.s3.2.1], bv h.s3.2.2.1, bv h.s3.2.2.2.1, bv h.s3.2.2.2.2] : List (List Value)).flatten.toArray from (by first | rfl | simp only [List.flatten_cons, List.flatten_nil, List.append_nil, List.append_assoc]))
      refine g_yes hE rfl rfl ?_
      refine s_loadN hE rfl (hM.get 4 rfl) row62 rfl (by intro X h; cases h) rfl ?_; clear hE a; intro a hE
      replace hE := hE.cast 82 rfl (show _ = Value.agg ([[.int .i64 h.m], [.int .i64 h.r], [.bool h.v0.1], [.int .u64 ((h.v0.2.1 : Nat) : Int)], bv h.v0.2.2.1, bv h.v0.2.2.2, [.bool h.v1.1], [.int .u64 ((h.v1.2.1 : Nat) : Int)], bv h.v1.2.2.1, bv h.v1.2.2.2, [.bool h.s0.1], [.int .i64 h.s0.2.1], bv h.s0.2.2.1, bv h.s0.2.2.2.1, bv h.s0.2.2.2.2, [.bool h.s1.1], [.int .i64 h.s1.2.1], bv h.s1.2.2.1, bv h.s1.2.2.2.1, bv h.s1.2.2.2.2, [.bool h.s2.1], [.int .i64 h.s2.2.1], bv h.s2.2.2.1, bv h.s2.2.2.2.1, bv h.s2.2.2.2.2, [.bool h.s3.1], [.int .i64 h.s3.2.1], bv h.s3.2.2.1, bv h.s3.2.2.2.1, bv h.s3.2.2.2.2] : List (List Value)).flatten.toArray from (by first | rfl | simp only [List.flatten_cons, List.flatten_nil, List.append_nil, List.append_assoc]))
      refine g_yes hE rfl rfl ?_
      refine s_bin hE rfl rfl ((eqk62 (b := decide ((h.m : Int) = h.m ∧ (h.r : Int) = h.r ∧ h.v0.1 = h.v0.1 ∧ (((h.v0.2.1 : Nat) : Int) : Int) = ((h.v0.2.1 : Nat) : Int) ∧ h.v0.2.2.1 = h.v0.2.2.1 ∧ h.v0.2.2.2 = h.v0.2.2.2 ∧ h.v1.1 = h.v1.1 ∧ (((h.v1.2.1 : Nat) : Int) : Int) = ((h.v1.2.1 : Nat) : Int) ∧ h.v1.2.2.1 = h.v1.2.2.1 ∧ h.v1.2.2.2 = h.v1.2.2.2 ∧ h.s0.1 = h.s0.1 ∧ (h.s0.2.1 : Int) = h.s0.2.1 ∧ h.s0.2.2.1 = h.s0.2.2.1 ∧ h.s0.2.2.2.1 = h.s0.2.2.2.1 ∧ h.s0.2.2.2.2 = h.s0.2.2.2.2 ∧ h.s1.1 = h.s1.1 ∧ (h.s1.2.1 : Int) = h.s1.2.1 ∧ h.s1.2.2.1 = h.s1.2.2.1 ∧ h.s1.2.2.2.1 = h.s1.2.2.2.1 ∧ h.s1.2.2.2.2 = h.s1.2.2.2.2 ∧ h.s2.1 = h.s2.1 ∧ (h.s2.2.1 : Int) = h.s2.2.1 ∧ h.s2.2.2.1 = h.s2.2.2.1 ∧ h.s2.2.2.2.1 = h.s2.2.2.2.1 ∧ h.s2.2.2.2.2 = h.s2.2.2.2.2 ∧ h.s3.1 = h.s3.1 ∧ (h.s3.2.1 : Int) = h.s3.2.1 ∧ h.s3.2.2.1 = h.s3.2.2.1 ∧ h.s3.2.2.2.1 = h.s3.2.2.2.1 ∧ h.s3.2.2.2.2 = h.s3.2.2.2.2)) (klL62 (k := 0) (x0 := h.m) (x1 := h.r) (x2 := h.v0.1) (x3 := ((h.v0.2.1 : Nat) : Int)) (x4 := h.v0.2.2.1) (x5 := h.v0.2.2.2) (x6 := h.v1.1) (x7 := ((h.v1.2.1 : Nat) : Int)) (x8 := h.v1.2.2.1) (x9 := h.v1.2.2.2) (x10 := h.s0.1) (x11 := h.s0.2.1) (x12 := h.s0.2.2.1) (x13 := h.s0.2.2.2.1) (x14 := h.s0.2.2.2.2) (x15 := h.s1.1) (x16 := h.s1.2.1) (x17 := h.s1.2.2.1) (x18 := h.s1.2.2.2.1) (x19 := h.s1.2.2.2.2) (x20 := h.s2.1) (x21 := h.s2.2.1) (x22 := h.s2.2.2.1) (x23 := h.s2.2.2.2.1) (x24 := h.s2.2.2.2.2) (x25 := h.s3.1) (x26 := h.s3.2.1) (x27 := h.s3.2.2.1) (x28 := h.s3.2.2.2.1) (x29 := h.s3.2.2.2.2) (wf_i64 hk_h.m) (wf_i64 hk_h.r) (wf_u64 hk_h.v0.1) hk_h.v0.2.1 hk_h.v0.2.2 (wf_u64 hk_h.v1.1) hk_h.v1.2.1 hk_h.v1.2.2 (wf_i64 hk_h.s0.1) hk_h.s0.2.1 hk_h.s0.2.2.1 hk_h.s0.2.2.2 (wf_i64 hk_h.s1.1) hk_h.s1.2.1 hk_h.s1.2.2.1 hk_h.s1.2.2.2 (wf_i64 hk_h.s2.1) hk_h.s2.2.1 hk_h.s2.2.2.1 hk_h.s2.2.2.2 (wf_i64 hk_h.s3.1) hk_h.s3.2.1 hk_h.s3.2.2.1 hk_h.s3.2.2.2) (klL62 (k := 0) (x0 := h.m) (x1 := h.r) (x2 := h.v0.1) (x3 := ((h.v0.2.1 : Nat) : Int)) (x4 := h.v0.2.2.1) (x5 := h.v0.2.2.2) (x6 := h.v1.1) (x7 := ((h.v1.2.1 : Nat) : Int)) (x8 := h.v1.2.2.1) (x9 := h.v1.2.2.2) (x10 := h.s0.1) (x11 := h.s0.2.1) (x12 := h.s0.2.2.1) (x13 := h.s0.2.2.2.1) (x14 := h.s0.2.2.2.2) (x15 := h.s1.1) (x16 := h.s1.2.1) (x17 := h.s1.2.2.1) (x18 := h.s1.2.2.2.1) (x19 := h.s1.2.2.2.2) (x20 := h.s2.1) (x21 := h.s2.2.1) (x22 := h.s2.2.2.1) (x23 := h.s2.2.2.2.1) (x24 := h.s2.2.2.2.2) (x25 := h.s3.1) (x26 := h.s3.2.1) (x27 := h.s3.2.2.1) (x28 := h.s3.2.2.2.1) (x29 := h.s3.2.2.2.2) (wf_i64 hk_h.m) (wf_i64 hk_h.r) (wf_u64 hk_h.v0.1) hk_h.v0.2.1 hk_h.v0.2.2 (wf_u64 hk_h.v1.1) hk_h.v1.2.1 hk_h.v1.2.2 (wf_i64 hk_h.s0.1) hk_h.s0.2.1 hk_h.s0.2.2.1 hk_h.s0.2.2.2 (wf_i64 hk_h.s1.1) hk_h.s1.2.1 hk_h.s1.2.2.1 hk_h.s1.2.2.2 (wf_i64 hk_h.s2.1) hk_h.s2.2.1 hk_h.s2.2.2.1 hk_h.s2.2.2.2 (wf_i64 hk_h.s3.1) hk_h.s3.2.1 hk_h.s3.2.2.1 hk_h.s3.2.2.2) (by rw [flat_eq (by have hl_x4 : h.v0.2.2.1.length = 32 := hk_h.v0.2.1; have hl_x5 : h.v0.2.2.2.length = 32 := hk_h.v0.2.2; have hl_x8 : h.v1.2.2.1.length = 32 := hk_h.v1.2.1; have hl_x9 : h.v1.2.2.2.length = 32 := hk_h.v1.2.2; have hl_x12 : h.s0.2.2.1.length = 16 := hk_h.s0.2.1; have hl_x13 : h.s0.2.2.2.1.length = 32 := hk_h.s0.2.2.1; have hl_x14 : h.s0.2.2.2.2.length = 32 := hk_h.s0.2.2.2; have hl_x17 : h.s1.2.2.1.length = 16 := hk_h.s1.2.1; have hl_x18 : h.s1.2.2.2.1.length = 32 := hk_h.s1.2.2.1; have hl_x19 : h.s1.2.2.2.2.length = 32 := hk_h.s1.2.2.2; have hl_x22 : h.s2.2.2.1.length = 16 := hk_h.s2.2.1; have hl_x23 : h.s2.2.2.2.1.length = 32 := hk_h.s2.2.2.1; have hl_x24 : h.s2.2.2.2.2.length = 32 := hk_h.s2.2.2.2; have hl_x27 : h.s3.2.2.1.length = 16 := hk_h.s3.2.1; have hl_x28 : h.s3.2.2.2.1.length = 32 := hk_h.s3.2.2.1; have hl_x29 : h.s3.2.2.2.2.length = 32 := hk_h.s3.2.2.2; have hl_y4 : h.v0.2.2.1.length = 32 := hk_h.v0.2.1; have hl_y5 : h.v0.2.2.2.length = 32 := hk_h.v0.2.2; have hl_y8 : h.v1.2.2.1.length = 32 := hk_h.v1.2.1; have hl_y9 : h.v1.2.2.2.length = 32 := hk_h.v1.2.2; have hl_y12 : h.s0.2.2.1.length = 16 := hk_h.s0.2.1; have hl_y13 : h.s0.2.2.2.1.length = 32 := hk_h.s0.2.2.1; have hl_y14 : h.s0.2.2.2.2.length = 32 := hk_h.s0.2.2.2; have hl_y17 : h.s1.2.2.1.length = 16 := hk_h.s1.2.1; have hl_y18 : h.s1.2.2.2.1.length = 32 := hk_h.s1.2.2.1; have hl_y19 : h.s1.2.2.2.2.length = 32 := hk_h.s1.2.2.2; have hl_y22 : h.s2.2.2.1.length = 16 := hk_h.s2.2.1; have hl_y23 : h.s2.2.2.2.1.length = 32 := hk_h.s2.2.2.1; have hl_y24 : h.s2.2.2.2.2.length = 32 := hk_h.s2.2.2.2; have hl_y27 : h.s3.2.2.1.length = 16 := hk_h.s3.2.1; have hl_y28 : h.s3.2.2.2.1.length = 32 := hk_h.s3.2.2.1; have hl_y29 : h.s3.2.2.2.2.length = 32 := hk_h.s3.2.2.2; simp only [List.map_cons, List.map_nil, bv_length, List.length_cons, List.length_nil, hl_x4, hl_x5, hl_x8, hl_x9, hl_x12, hl_x13, hl_x14, hl_x17, hl_x18, hl_x19, hl_x22, hl_x23, hl_x24, hl_x27, hl_x28, hl_x29, hl_y4, hl_y5, hl_y8, hl_y9, hl_y12, hl_y13, hl_y14, hl_y17, hl_y18, hl_y19, hl_y22, hl_y23, hl_y24, hl_y27, hl_y28, hl_y29])]; simp [bv_iff, Int.ofNat_inj]; try omega)).2) rfl ?_; clear hE a; intro a hE
      refine s_pickf hE rfl rfl rfl ?_; clear hE a; intro a hE
      refine q_nil ?_
      replace hE : Env a 135 [(2, _), (3, _), (4, _), (6, _), (7, _), (8, _), (10, _), (11, _), (12, _), (13, _), (23, _), (40, _), (71, _), (84, _)] := hE.sel [2, 3, 4, 6, 7, 8, 10, 11, 12, 13, 23, 40, 71, 84] rfl
      refine hK12 _ _ ?_
      replace hE := hE.cast 84 rfl (show _ = Value.bool false from (congrArg Value.bool (by first | (with_reducible rfl) | (simp; done))))
      refine wp_cond_false (hE.eval rfl) ?_
      refine wp_skip ?_
      refine hK11 _ _ ?_
      refine wp_seq_k (fun K13 hK13 => ?_)
      refine wp_plain [true, true, true, true] rfl rfl ?_
      refine s_move hE rfl rfl ?_; clear hE a; intro a hE
      refine s_conv hE rfl (cnv_int Tryd.underlying5 Tryd.underlying3 (wrap_i64 (by omega) (by have := (i : UInt8).toNat_lt; omega))) rfl ?_; clear hE a; intro a hE
      refine s_bin hE rfl rfl (bin_rem_nat (m := i.toNat) (s := 4) (by decide)) rfl ?_; clear hE a; intro a hE
      refine s_assign hE rfl rfl ?_; clear hE a; intro a hE
      refine q_nil ?_
      replace hE : Env a 135 [(3, _), (4, _), (6, _), (7, _), (8, _), (10, _), (11, _), (12, _), (13, _), (15, _), (23, _), (40, _), (71, _), (84, _)] := hE.sel [3, 4, 6, 7, 8, 10, 11, 12, 13, 15, 23, 40, 71, 84] rfl
      refine hK13 _ _ ?_
      refine wp_seq_k (fun K14 hK14 => ?_)
      refine wp_plain [true, true, false, true, true, true, false, false, true] rfl rfl ?_
      refine s_loadN hE rfl (hM.get 2 rfl) row62 rfl (by intro X h; cases h) rfl ?_; clear hE a; intro a hE
      replace hE := hE.cast 89 rfl (show _ = Value.agg ([[.int .i64 (((addS h x p b z).1).m)], [.int .i64 (((addS h x p b z).1).r)], [.bool (((addS h x p b z).1).v0.1)], [.int .u64 ((((addS h x p b z).1).v0.2.1 : Nat) : Int)], bv (((addS h x p b z).1).v0.2.2.1), bv (((addS h x p b z).1).v0.2.2.2), [.bool (((addS h x p b z).1).v1.1)], [.int .u64 ((((addS h x p b z).1).v1.2.1 : Nat) : Int)], bv (((addS h x p b z).1).v1.2.2.1), bv (((addS h x p b z).1).v1.2.2.2), [.bool (((addS h x p b z).1).s0.1)], [.int .i64 (((addS h x p b z).1).s0.2.1)], bv (((addS h x p b z).1).s0.2.2.1), bv (((addS h x p b z).1).s0.2.2.2.1), bv (((addS h x p b z).1).s0.2.2.2.2), [.bool (((addS h x p b z).1).s1.1)], [.int .i64 (((addS h x p b z).1).s1.2.1)], bv (((addS h x p b z).1).s1.2.2.1), bv (((addS h x p b z).1).s1.2.2.2.1), bv (((addS h x p b z).1).s1.2.2.2.2), [.bool (((addS h x p b z).1).s2.1)], [.int .i64 (((addS h x p b z).1).s2.2.1)], bv (((addS h x p b z).1).s2.2.2.1), bv (((addS h x p b z).1).s2.2.2.2.1), bv (((addS h x p b z).1).s2.2.2.2.2), [.bool (((addS h x p b z).1).s3.1)], [.int .i64 (((addS h x p b z).1).s3.2.1)], bv (((addS h x p b z).1).s3.2.2.1), bv (((addS h x p b z).1).s3.2.2.2.1), bv (((addS h x p b z).1).s3.2.2.2.2)] : List (List Value)).flatten.toArray from (by first | rfl | simp only [List.flatten_cons, List.flatten_nil, List.append_nil, List.append_assoc]))
      refine s_move hE rfl rfl ?_; clear hE a; intro a hE
      refine s_call hE rfl Tryd.call32 (rem_c ((addS h x p b z).1) ((i.toNat % 4 : Nat) : Int) _ (addS_ok (h := h) (x := x) (p := p) (b := b) (z := z) hk_h (by first | assumption | decide | (unfold In64; omega)) (by have hl_ab : b.length = 16 := hl_b; first | assumption | (simp; done)) (by have hl_ax : x.length = 32 := hl_x; first | assumption | (simp; done)))) rfl ?_
      rintro e w13 ⟨rfl, hN⟩
      refine ⟨_, rfl, trivial, ?_⟩; clear hE a; intro a hE
      replace hM : Mem _ _ w13 [_, _, _, _, _, _, _] := hM.call0 hN trivial; clear hN
      refine s_move hE rfl rfl ?_; clear hE a; intro a hE
      refine s_extract hE rfl rfl rfl ?_; clear hE a; intro a hE
      refine s_extract hE rfl rfl rfl ?_; clear hE a; intro a hE
      refine s_alloc [1, 1, 1, 1, 32, 32, 1, 1, 32, 32, 1, 1, 16, 32, 32, 1, 1, 16, 32, 32, 1, 1, 16, 32, 32, 1, 1, 16, 32, 32] hE hM zeroL62 rfl rfl ?_; clear hE a; intro a b16 w14 hE hM'
      clear hM; have hM := hM'; clear hM'
      have hsl307_4 : (((remS ((addS h x p b z).1) ((i.toNat % 4 : Nat) : Int)).1).v0.2.2.1).length = 32 := (remS_ok (addS_ok (h := h) (x := x) (p := p) (b := b) (z := z) hk_h (by first | assumption | decide | (unfold In64; omega)) (by have hl_ab : b.length = 16 := hl_b; first | assumption | (simp; done)) (by have hl_ax : x.length = 32 := hl_x; first | assumption | (simp; done))) (i := ((i.toNat % 4 : Nat) : Int))).v0.2.1
      have hsl307_5 : (((remS ((addS h x p b z).1) ((i.toNat % 4 : Nat) : Int)).1).v0.2.2.2).length = 32 := (remS_ok (addS_ok (h := h) (x := x) (p := p) (b := b) (z := z) hk_h (by first | assumption | decide | (unfold In64; omega)) (by have hl_ab : b.length = 16 := hl_b; first | assumption | (simp; done)) (by have hl_ax : x.length = 32 := hl_x; first | assumption | (simp; done))) (i := ((i.toNat % 4 : Nat) : Int))).v0.2.2
      have hsl307_8 : (((remS ((addS h x p b z).1) ((i.toNat % 4 : Nat) : Int)).1).v1.2.2.1).length = 32 := (remS_ok (addS_ok (h := h) (x := x) (p := p) (b := b) (z := z) hk_h (by first | assumption | decide | (unfold In64; omega)) (by have hl_ab : b.length = 16 := hl_b; first | assumption | (simp; done)) (by have hl_ax : x.length = 32 := hl_x; first | assumption | (simp; done))) (i := ((i.toNat % 4 : Nat) : Int))).v1.2.1
      have hsl307_9 : (((remS ((addS h x p b z).1) ((i.toNat % 4 : Nat) : Int)).1).v1.2.2.2).length = 32 := (remS_ok (addS_ok (h := h) (x := x) (p := p) (b := b) (z := z) hk_h (by first | assumption | decide | (unfold In64; omega)) (by have hl_ab : b.length = 16 := hl_b; first | assumption | (simp; done)) (by have hl_ax : x.length = 32 := hl_x; first | assumption | (simp; done))) (i := ((i.toNat % 4 : Nat) : Int))).v1.2.2
      have hsl307_12 : (((remS ((addS h x p b z).1) ((i.toNat % 4 : Nat) : Int)).1).s0.2.2.1).length = 16 := (remS_ok (addS_ok (h := h) (x := x) (p := p) (b := b) (z := z) hk_h (by first | assumption | decide | (unfold In64; omega)) (by have hl_ab : b.length = 16 := hl_b; first | assumption | (simp; done)) (by have hl_ax : x.length = 32 := hl_x; first | assumption | (simp; done))) (i := ((i.toNat % 4 : Nat) : Int))).s0.2.1
      have hsl307_13 : (((remS ((addS h x p b z).1) ((i.toNat % 4 : Nat) : Int)).1).s0.2.2.2.1).length = 32 := (remS_ok (addS_ok (h := h) (x := x) (p := p) (b := b) (z := z) hk_h (by first | assumption | decide | (unfold In64; omega)) (by have hl_ab : b.length = 16 := hl_b; first | assumption | (simp; done)) (by have hl_ax : x.length = 32 := hl_x; first | assumption | (simp; done))) (i := ((i.toNat % 4 : Nat) : Int))).s0.2.2.1
      have hsl307_14 : (((remS ((addS h x p b z).1) ((i.toNat % 4 : Nat) : Int)).1).s0.2.2.2.2).length = 32 := (remS_ok (addS_ok (h := h) (x := x) (p := p) (b := b) (z := z) hk_h (by first | assumption | decide | (unfold In64; omega)) (by have hl_ab : b.length = 16 := hl_b; first | assumption | (simp; done)) (by have hl_ax : x.length = 32 := hl_x; first | assumption | (simp; done))) (i := ((i.toNat % 4 : Nat) : Int))).s0.2.2.2
      have hsl307_17 : (((remS ((addS h x p b z).1) ((i.toNat % 4 : Nat) : Int)).1).s1.2.2.1).length = 16 := (remS_ok (addS_ok (h := h) (x := x) (p := p) (b := b) (z := z) hk_h (by first | assumption | decide | (unfold In64; omega)) (by have hl_ab : b.length = 16 := hl_b; first | assumption | (simp; done)) (by have hl_ax : x.length = 32 := hl_x; first | assumption | (simp; done))) (i := ((i.toNat % 4 : Nat) : Int))).s1.2.1
      have hsl307_18 : (((remS ((addS h x p b z).1) ((i.toNat % 4 : Nat) : Int)).1).s1.2.2.2.1).length = 32 := (remS_ok (addS_ok (h := h) (x := x) (p := p) (b := b) (z := z) hk_h (by first | assumption | decide | (unfold In64; omega)) (by have hl_ab : b.length = 16 := hl_b; first | assumption | (simp; done)) (by have hl_ax : x.length = 32 := hl_x; first | assumption | (simp; done))) (i := ((i.toNat % 4 : Nat) : Int))).s1.2.2.1
      have hsl307_19 : (((remS ((addS h x p b z).1) ((i.toNat % 4 : Nat) : Int)).1).s1.2.2.2.2).length = 32 := (remS_ok (addS_ok (h := h) (x := x) (p := p) (b := b) (z := z) hk_h (by first | assumption | decide | (unfold In64; omega)) (by have hl_ab : b.length = 16 := hl_b; first | assumption | (simp; done)) (by have hl_ax : x.length = 32 := hl_x; first | assumption | (simp; done))) (i := ((i.toNat % 4 : Nat) : Int))).s1.2.2.2
      have hsl307_22 : (((remS ((addS h x p b z).1) ((i.toNat % 4 : Nat) : Int)).1).s2.2.2.1).length = 16 := (remS_ok (addS_ok (h := h) (x := x) (p := p) (b := b) (z := z) hk_h (by first | assumption | decide | (unfold In64; omega)) (by have hl_ab : b.length = 16 := hl_b; first | assumption | (simp; done)) (by have hl_ax : x.length = 32 := hl_x; first | assumption | (simp; done))) (i := ((i.toNat % 4 : Nat) : Int))).s2.2.1
      have hsl307_23 : (((remS ((addS h x p b z).1) ((i.toNat % 4 : Nat) : Int)).1).s2.2.2.2.1).length = 32 := (remS_ok (addS_ok (h := h) (x := x) (p := p) (b := b) (z := z) hk_h (by first | assumption | decide | (unfold In64; omega)) (by have hl_ab : b.length = 16 := hl_b; first | assumption | (simp; done)) (by have hl_ax : x.length = 32 := hl_x; first | assumption | (simp; done))) (i := ((i.toNat % 4 : Nat) : Int))).s2.2.2.1
      have hsl307_24 : (((remS ((addS h x p b z).1) ((i.toNat % 4 : Nat) : Int)).1).s2.2.2.2.2).length = 32 := (remS_ok (addS_ok (h := h) (x := x) (p := p) (b := b) (z := z) hk_h (by first | assumption | decide | (unfold In64; omega)) (by have hl_ab : b.length = 16 := hl_b; first | assumption | (simp; done)) (by have hl_ax : x.length = 32 := hl_x; first | assumption | (simp; done))) (i := ((i.toNat % 4 : Nat) : Int))).s2.2.2.2
      have hsl307_27 : (((remS ((addS h x p b z).1) ((i.toNat % 4 : Nat) : Int)).1).s3.2.2.1).length = 16 := (remS_ok (addS_ok (h := h) (x := x) (p := p) (b := b) (z := z) hk_h (by first | assumption | decide | (unfold In64; omega)) (by have hl_ab : b.length = 16 := hl_b; first | assumption | (simp; done)) (by have hl_ax : x.length = 32 := hl_x; first | assumption | (simp; done))) (i := ((i.toNat % 4 : Nat) : Int))).s3.2.1
      have hsl307_28 : (((remS ((addS h x p b z).1) ((i.toNat % 4 : Nat) : Int)).1).s3.2.2.2.1).length = 32 := (remS_ok (addS_ok (h := h) (x := x) (p := p) (b := b) (z := z) hk_h (by first | assumption | decide | (unfold In64; omega)) (by have hl_ab : b.length = 16 := hl_b; first | assumption | (simp; done)) (by have hl_ax : x.length = 32 := hl_x; first | assumption | (simp; done))) (i := ((i.toNat % 4 : Nat) : Int))).s3.2.2.1
      have hsl307_29 : (((remS ((addS h x p b z).1) ((i.toNat % 4 : Nat) : Int)).1).s3.2.2.2.2).length = 32 := (remS_ok (addS_ok (h := h) (x := x) (p := p) (b := b) (z := z) hk_h (by first | assumption | decide | (unfold In64; omega)) (by have hl_ab : b.length = 16 := hl_b; first | assumption | (simp; done)) (by have hl_ax : x.length = 32 := hl_x; first | assumption | (simp; done))) (i := ((i.toNat % 4 : Nat) : Int))).s3.2.2.2
      refine s_storeSegs 0 30 (vss := [[.int .i64 (((remS ((addS h x p b z).1) ((i.toNat % 4 : Nat) : Int)).1).m)], [.int .i64 (((remS ((addS h x p b z).1) ((i.toNat % 4 : Nat) : Int)).1).r)], [.bool (((remS ((addS h x p b z).1) ((i.toNat % 4 : Nat) : Int)).1).v0.1)], [.int .u64 ((((remS ((addS h x p b z).1) ((i.toNat % 4 : Nat) : Int)).1).v0.2.1 : Nat) : Int)], bv (((remS ((addS h x p b z).1) ((i.toNat % 4 : Nat) : Int)).1).v0.2.2.1), bv (((remS ((addS h x p b z).1) ((i.toNat % 4 : Nat) : Int)).1).v0.2.2.2), [.bool (((remS ((addS h x p b z).1) ((i.toNat % 4 : Nat) : Int)).1).v1.1)], [.int .u64 ((((remS ((addS h x p b z).1) ((i.toNat % 4 : Nat) : Int)).1).v1.2.1 : Nat) : Int)], bv (((remS ((addS h x p b z).1) ((i.toNat % 4 : Nat) : Int)).1).v1.2.2.1), bv (((remS ((addS h x p b z).1) ((i.toNat % 4 : Nat) : Int)).1).v1.2.2.2), [.bool (((remS ((addS h x p b z).1) ((i.toNat % 4 : Nat) : Int)).1).s0.1)], [.int .i64 (((remS ((addS h x p b z).1) ((i.toNat % 4 : Nat) : Int)).1).s0.2.1)], bv (((remS ((addS h x p b z).1) ((i.toNat % 4 : Nat) : Int)).1).s0.2.2.1), bv (((remS ((addS h x p b z).1) ((i.toNat % 4 : Nat) : Int)).1).s0.2.2.2.1), bv (((remS ((addS h x p b z).1) ((i.toNat % 4 : Nat) : Int)).1).s0.2.2.2.2), [.bool (((remS ((addS h x p b z).1) ((i.toNat % 4 : Nat) : Int)).1).s1.1)], [.int .i64 (((remS ((addS h x p b z).1) ((i.toNat % 4 : Nat) : Int)).1).s1.2.1)], bv (((remS ((addS h x p b z).1) ((i.toNat % 4 : Nat) : Int)).1).s1.2.2.1), bv (((remS ((addS h x p b z).1) ((i.toNat % 4 : Nat) : Int)).1).s1.2.2.2.1), bv (((remS ((addS h x p b z).1) ((i.toNat % 4 : Nat) : Int)).1).s1.2.2.2.2), [.bool (((remS ((addS h x p b z).1) ((i.toNat % 4 : Nat) : Int)).1).s2.1)], [.int .i64 (((remS ((addS h x p b z).1) ((i.toNat % 4 : Nat) : Int)).1).s2.2.1)], bv (((remS ((addS h x p b z).1) ((i.toNat % 4 : Nat) : Int)).1).s2.2.2.1), bv (((remS ((addS h x p b z).1) ((i.toNat % 4 : Nat) : Int)).1).s2.2.2.2.1), bv (((remS ((addS h x p b z).1) ((i.toNat % 4 : Nat) : Int)).1).s2.2.2.2.2), [.bool (((remS ((addS h x p b z).1) ((i.toNat % 4 : Nat) : Int)).1).s3.1)], [.int .i64 (((remS ((addS h x p b z).1) ((i.toNat % 4 : Nat) : Int)).1).s3.2.1)], bv (((remS ((addS h x p b z).1) ((i.toNat % 4 : Nat) : Int)).1).s3.2.2.1), bv (((remS ((addS h x p b z).1) ((i.toNat % 4 : Nat) : Int)).1).s3.2.2.2.1), bv (((remS ((addS h x p b z).1) ((i.toNat % 4 : Nat) : Int)).1).s3.2.2.2.2)]) hE rfl rfl hM rfl sz62 (by simp only [List.take_succ_cons, List.take_zero, List.drop_zero, List.drop_succ_cons]; simp only [List.map_cons, List.map_nil, bv_length, List.length_cons, List.length_nil, List.length_replicate, hsl307_4, hsl307_5, hsl307_8, hsl307_9, hsl307_12, hsl307_13, hsl307_14, hsl307_17, hsl307_18, hsl307_19, hsl307_22, hsl307_23, hsl307_24, hsl307_27, hsl307_28, hsl307_29]) (by decide) rfl (one_fl ⟨one1 rfl, one1 rfl, one1 rfl, one1 rfl, bv_one _, bv_one _, one1 rfl, one1 rfl, bv_one _, bv_one _, one1 rfl, one1 rfl, bv_one _, bv_one _, bv_one _, one1 rfl, one1 rfl, bv_one _, bv_one _, bv_one _, one1 rfl, one1 rfl, bv_one _, bv_one _, bv_one _, one1 rfl, one1 rfl, bv_one _, bv_one _, bv_one _, trivial⟩) rfl (by intro X h; cases h) ?_; intro w15 hM'; clear hM; have hM := hM'; clear hM'
      try simp only [List.take_zero, List.take_succ_cons, List.drop_zero, List.drop_succ_cons, List.take_nil, List.drop_nil, List.nil_append, List.append_nil, List.cons_append] at hM
      refine s_assign hE rfl rfl ?_; clear hE a; intro a hE
      refine q_nil ?_
      replace hE : Env a 135 [(3, _), (4, _), (6, _), (7, _), (8, _), (10, _), (11, _), (12, _), (13, _), (15, _), (16, _), (17, _), (23, _), (40, _), (71, _), (84, _)] := hE.sel [3, 4, 6, 7, 8, 10, 11, 12, 13, 15, 16, 17, 23, 40, 71, 84] rfl
      refine hK14 _ _ ?_
      refine wp_seq_k (fun K15 hK15 => ?_)
      refine wp_seq_k (fun K16 hK16 => ?_)
      refine wp_plain [true, true, true, true, true, true, true] rfl rfl ?_
      refine s_move hE rfl rfl ?_; clear hE a; intro a hE
      refine s_bin hE rfl rfl bin_neq rfl ?_; clear hE a; intro a hE
      refine s_move hE rfl rfl ?_; clear hE a; intro a hE
      refine hE.split 96 rfl (fun hb96 hE' => ?_) (fun hb96 hE' => ?_)
      · replace hE := hE'; clear hE'
        replace hb96 := of_decide_eq_false (not_true hb96)
        replace hb96 : ¬ (((remS ((addS h x p b z).1) ((i.toNat % 4 : Nat) : Int)).2) = 0) := by omega
        have hoj : ¬ i.toNat % 4 = j := fun e => hb96 (hr4 _ (by omega) e)
        have hr5 := hr3 _ (by omega) hb96
        refine g_no (b := true) hE rfl rfl rfl ?_; clear hE a; intro a hE
        refine g_no (b := true) hE rfl rfl rfl ?_; clear hE a; intro a hE
        refine g_no (b := true) hE rfl rfl rfl ?_; clear hE a; intro a hE
        refine s_pickt hE rfl rfl rfl ?_; clear hE a; intro a hE
        refine q_nil ?_
        replace hE : Env a 135 [(3, _), (4, _), (6, _), (7, _), (8, _), (10, _), (11, _), (12, _), (13, _), (15, _), (16, _), (17, _), (23, _), (40, _), (71, _), (84, _), (100, _)] := hE.sel [3, 4, 6, 7, 8, 10, 11, 12, 13, 15, 16, 17, 23, 40, 71, 84, 100] rfl
        refine hK16 _ _ ?_
        refine wp_cond_true (hE.eval rfl) ?_
        refine wp_seq_k (fun K17 hK17 => ?_)
        refine wp_plain [true, true, true, true, true, true, true, true, false, true, true] rfl rfl ?_
        refine s_move hE rfl rfl ?_; clear hE a; intro a hE
        refine s_move hE rfl rfl ?_; clear hE a; intro a hE
        refine s_bin hE rfl rfl bin_eql rfl ?_; clear hE a; intro a hE
        refine s_move hE rfl rfl ?_; clear hE a; intro a hE
        replace hE := hE.cast 104 rfl (show _ = Value.bool false from (congrArg Value.bool (decide_eq_false (by omega))))
        refine g_yes hE rfl rfl ?_
        refine s_move hE rfl rfl ?_; clear hE a; intro a hE
        refine g_yes hE rfl rfl ?_
        refine s_bin hE rfl rfl bin_eql rfl ?_; clear hE a; intro a hE
        refine s_pickf hE rfl rfl rfl ?_; clear hE a; intro a hE
        refine s_move hE rfl rfl ?_; clear hE a; intro a hE
        replace hE := hE.cast 108 rfl (show _ = Value.bool true from (congrArg Value.bool (by rw [hr5]; rfl)))
        refine g_yes hE rfl rfl ?_
        refine s_call hE rfl Tryd.call28 (awake25_c  _ (hM.get 6 rfl) (hM.get 7 rfl)) rfl ?_
        rintro e w16 ⟨rfl, hN⟩
        refine ⟨_, rfl, trivial, ?_⟩; clear hE a; intro a hE
        replace hM : Mem _ _ w16 [_, _, _, _, _, _, _, _] := hM.call0 hN trivial; clear hN
        refine s_pickt hE rfl rfl rfl ?_; clear hE a; intro a hE
        refine s_assign hE rfl rfl ?_; clear hE a; intro a hE
        refine q_nil ?_
        replace hE : Env a 135 [(3, _), (4, _), (6, _), (7, _), (8, _), (10, _), (11, _), (12, _), (13, _), (15, _), (16, _), (17, _), (23, _), (40, _), (71, _), (84, _), (100, _)] := hE.sel [3, 4, 6, 7, 8, 10, 11, 12, 13, 15, 16, 17, 23, 40, 71, 84, 100] rfl
        refine hK17 _ _ ?_
        refine wp_ret ?_
        refine q_then_r ?_
        refine f_ret1 hE rfl rfl ?_
        exact ⟨(by first | rfl | (simp; done)), hM.pick [] rfl⟩
      · replace hE := hE'; clear hE'
        replace hb96 := of_decide_eq_true (not_false' hb96)
        replace hb96 : ((remS ((addS h x p b z).1) ((i.toNat % 4 : Nat) : Int)).2) = 0 := by omega
        refine g_yes hE rfl rfl ?_
        refine s_move hE rfl rfl ?_; clear hE a; intro a hE
        refine g_yes hE rfl rfl ?_
        refine s_move hE rfl rfl ?_; clear hE a; intro a hE
        refine g_yes hE rfl rfl ?_
        refine s_bin hE rfl rfl bin_eql rfl ?_; clear hE a; intro a hE
        refine s_pickf hE rfl rfl rfl ?_; clear hE a; intro a hE
        refine q_nil ?_
        replace hE : Env a 135 [(3, _), (4, _), (6, _), (7, _), (8, _), (10, _), (11, _), (12, _), (13, _), (15, _), (16, _), (17, _), (23, _), (40, _), (71, _), (84, _), (100, _)] := hE.sel [3, 4, 6, 7, 8, 10, 11, 12, 13, 15, 16, 17, 23, 40, 71, 84, 100] rfl
        refine hK16 _ _ ?_
        refine hE.split 100 rfl (fun hb100 hE' => ?_) (fun hb100 hE' => ?_)
        · replace hE := hE'; clear hE'
          replace hb100 := of_decide_eq_true hb100
          replace hb100 : (i.toNat % 4) = j := by omega
          refine wp_cond_true (hE.eval rfl) ?_
          refine wp_seq_k (fun K17 hK17 => ?_)
          refine wp_plain [true, true, true, true, true, true, true, true, false, true, true] rfl rfl ?_
          refine s_move hE rfl rfl ?_; clear hE a; intro a hE
          refine s_move hE rfl rfl ?_; clear hE a; intro a hE
          refine s_bin hE rfl rfl bin_eql rfl ?_; clear hE a; intro a hE
          refine s_move hE rfl rfl ?_; clear hE a; intro a hE
          replace hE := hE.cast 104 rfl (show _ = Value.bool true from (congrArg Value.bool (decide_eq_true (by omega))))
          refine g_no (b := true) hE rfl rfl rfl ?_; clear hE a; intro a hE
          refine g_no (b := true) hE rfl rfl rfl ?_; clear hE a; intro a hE
          refine s_pickt hE rfl rfl rfl ?_; clear hE a; intro a hE
          refine s_move hE rfl rfl ?_; clear hE a; intro a hE
          refine g_yes hE rfl rfl ?_
          refine s_call hE rfl Tryd.call28 (awake25_c  _ (hM.get 6 rfl) (hM.get 7 rfl)) rfl ?_
          rintro e w16 ⟨rfl, hN⟩
          refine ⟨_, rfl, trivial, ?_⟩; clear hE a; intro a hE
          replace hM : Mem _ _ w16 [_, _, _, _, _, _, _, _] := hM.call0 hN trivial; clear hN
          refine s_pickt hE rfl rfl rfl ?_; clear hE a; intro a hE
          refine s_assign hE rfl rfl ?_; clear hE a; intro a hE
          refine q_nil ?_
          replace hE : Env a 135 [(3, _), (4, _), (6, _), (7, _), (8, _), (10, _), (11, _), (12, _), (13, _), (15, _), (16, _), (17, _), (23, _), (40, _), (71, _), (84, _), (100, _)] := hE.sel [3, 4, 6, 7, 8, 10, 11, 12, 13, 15, 16, 17, 23, 40, 71, 84, 100] rfl
          refine hK17 _ _ ?_
          refine wp_ret ?_
          refine q_then_r ?_
          refine f_ret1 hE rfl rfl ?_
          exact ⟨(by first | rfl | (simp; done)), hM.pick [] rfl⟩
        · replace hE := hE'; clear hE'
          replace hb100 := of_decide_eq_false hb100
          replace hb100 : ¬ ((i.toNat % 4) = j) := by omega
          have hu2 := hr2 _ (by omega) (show ¬ i.toNat % 4 = j by omega) hb96
          refine wp_cond_false (hE.eval rfl) ?_
          refine wp_skip ?_
          refine hK15 _ _ ?_
          refine wp_seq_k (fun K17 hK17 => ?_)
          refine wp_plain [true, true, true, false, true, true, true, true, false, true, true] rfl rfl ?_
          refine s_loadN hE rfl (hM.get 0 rfl) row62 rfl (by intro X h; cases h) rfl ?_; clear hE a; intro a hE
          replace hE := hE.cast 112 rfl (show _ = Value.agg ([[.int .i64 (((remS ((addS h x p b z).1) ((i.toNat % 4 : Nat) : Int)).1).m)], [.int .i64 (((remS ((addS h x p b z).1) ((i.toNat % 4 : Nat) : Int)).1).r)], [.bool (((remS ((addS h x p b z).1) ((i.toNat % 4 : Nat) : Int)).1).v0.1)], [.int .u64 ((((remS ((addS h x p b z).1) ((i.toNat % 4 : Nat) : Int)).1).v0.2.1 : Nat) : Int)], bv (((remS ((addS h x p b z).1) ((i.toNat % 4 : Nat) : Int)).1).v0.2.2.1), bv (((remS ((addS h x p b z).1) ((i.toNat % 4 : Nat) : Int)).1).v0.2.2.2), [.bool (((remS ((addS h x p b z).1) ((i.toNat % 4 : Nat) : Int)).1).v1.1)], [.int .u64 ((((remS ((addS h x p b z).1) ((i.toNat % 4 : Nat) : Int)).1).v1.2.1 : Nat) : Int)], bv (((remS ((addS h x p b z).1) ((i.toNat % 4 : Nat) : Int)).1).v1.2.2.1), bv (((remS ((addS h x p b z).1) ((i.toNat % 4 : Nat) : Int)).1).v1.2.2.2), [.bool (((remS ((addS h x p b z).1) ((i.toNat % 4 : Nat) : Int)).1).s0.1)], [.int .i64 (((remS ((addS h x p b z).1) ((i.toNat % 4 : Nat) : Int)).1).s0.2.1)], bv (((remS ((addS h x p b z).1) ((i.toNat % 4 : Nat) : Int)).1).s0.2.2.1), bv (((remS ((addS h x p b z).1) ((i.toNat % 4 : Nat) : Int)).1).s0.2.2.2.1), bv (((remS ((addS h x p b z).1) ((i.toNat % 4 : Nat) : Int)).1).s0.2.2.2.2), [.bool (((remS ((addS h x p b z).1) ((i.toNat % 4 : Nat) : Int)).1).s1.1)], [.int .i64 (((remS ((addS h x p b z).1) ((i.toNat % 4 : Nat) : Int)).1).s1.2.1)], bv (((remS ((addS h x p b z).1) ((i.toNat % 4 : Nat) : Int)).1).s1.2.2.1), bv (((remS ((addS h x p b z).1) ((i.toNat % 4 : Nat) : Int)).1).s1.2.2.2.1), bv (((remS ((addS h x p b z).1) ((i.toNat % 4 : Nat) : Int)).1).s1.2.2.2.2), [.bool (((remS ((addS h x p b z).1) ((i.toNat % 4 : Nat) : Int)).1).s2.1)], [.int .i64 (((remS ((addS h x p b z).1) ((i.toNat % 4 : Nat) : Int)).1).s2.2.1)], bv (((remS ((addS h x p b z).1) ((i.toNat % 4 : Nat) : Int)).1).s2.2.2.1), bv (((remS ((addS h x p b z).1) ((i.toNat % 4 : Nat) : Int)).1).s2.2.2.2.1), bv (((remS ((addS h x p b z).1) ((i.toNat % 4 : Nat) : Int)).1).s2.2.2.2.2), [.bool (((remS ((addS h x p b z).1) ((i.toNat % 4 : Nat) : Int)).1).s3.1)], [.int .i64 (((remS ((addS h x p b z).1) ((i.toNat % 4 : Nat) : Int)).1).s3.2.1)], bv (((remS ((addS h x p b z).1) ((i.toNat % 4 : Nat) : Int)).1).s3.2.2.1), bv (((remS ((addS h x p b z).1) ((i.toNat % 4 : Nat) : Int)).1).s3.2.2.2.1), bv (((remS ((addS h x p b z).1) ((i.toNat % 4 : Nat) : Int)).1).s3.2.2.2.2)] : List (List Value)).flatten.toArray from (by first | rfl | simp only [List.flatten_cons, List.flatten_nil, List.append_nil, List.append_assoc]))
          refine s_fieldAddr hE rfl fo84_1 rfl ?_; clear hE a; intro a hE
          refine s_load1 hE rfl (hM.get 4 rfl) rfl one9 (by intro X h; cases h) rfl ?_; clear hE a; intro a hE
          refine s_call hE rfl Tryd.call29 ((by have h := unlock_c (remS (addS h x p b z).1 ((i.toNat % 4 : Nat) : Int)).1 p _ (hM.get 6 rfl) (hM.get 7 rfl) (remS_ok (i := ((i.toNat % 4 : Nat) : Int)) (addS_ok (h := h) (x := x) (p := p) (b := b) (z := z) hk_h hz hl_b hl_x)); rw [hu2] at h; dsimp only at h; exact h)) rfl ?_
          rintro e w16 ⟨rfl, hN⟩
          refine ⟨_, rfl, trivial, ?_⟩; clear hE a; intro a hE
          replace hM : Mem _ _ w16 [_, _, _, _, _, _, _, _] := hM.call0 hN trivial; clear hN
          refine s_move hE rfl rfl ?_; clear hE a; intro a hE
          refine s_extract hE rfl rfl rfl ?_; clear hE a; intro a hE
          refine s_extract hE rfl rfl rfl ?_; clear hE a; intro a hE
          refine s_extract hE rfl rfl rfl ?_; clear hE a; intro a hE
          replace hM : Mem _ _ w16 [_, _, _, _, _, _, _, _] := hM.pick [2, 0, 1, 3, 4, 5, 6, 7] rfl
          refine s_storeSeg 0 hE rfl rfl hM rfl sz23 ((bv_length _).trans hl_x) (bv_one _) rfl ((bv_length _).trans hl_x) rfl (by intro X h; cases h) ?_; intro w17 hM'; clear hM; have hM := hM'; clear hM'
          simp only [List.set_cons_zero, List.set_cons_succ] at hM
          refine s_assign hE rfl rfl ?_; clear hE a; intro a hE
          refine s_assign hE rfl rfl ?_; clear hE a; intro a hE
          refine q_nil ?_
          replace hE : Env a 135 [(3, _), (4, _), (6, _), (7, _), (8, _), (10, _), (11, _), (12, _), (13, _), (15, _), (16, _), (17, _), (23, _), (40, _), (71, _), (84, _), (100, _)] := hE.sel [3, 4, 6, 7, 8, 10, 11, 12, 13, 15, 16, 17, 23, 40, 71, 84, 100] rfl
          refine hK17 _ _ ?_
          refine wp_seq_k (fun K18 hK18 => ?_)
          refine wp_plain [true, true, true, true, true, true, true, true, true, true, true, true, true, true, false, true, true] rfl rfl ?_
          refine s_move hE rfl rfl ?_; clear hE a; intro a hE
          refine s_bin hE rfl rfl bin_eql rfl ?_; clear hE a; intro a hE
          replace hE := hE.cast 120 rfl (show _ = Value.bool true from (congrArg Value.bool (by decide)))
          refine s_move hE rfl rfl ?_; clear hE a; intro a hE
          refine g_yes hE rfl rfl ?_
          refine s_move hE rfl rfl ?_; clear hE a; intro a hE
          refine g_yes hE rfl rfl ?_
          refine s_move hE rfl rfl ?_; clear hE a; intro a hE
          refine g_yes hE rfl rfl ?_
          refine s_bin hE rfl rfl bin_eql rfl ?_; clear hE a; intro a hE
          refine s_pickt hE rfl rfl rfl ?_; clear hE a; intro a hE
          refine s_move hE rfl rfl ?_; clear hE a; intro a hE
          replace hE := hE.cast 126 rfl (show _ = Value.bool true from (congrArg Value.bool (by first | (with_reducible exact decide_eq_true rfl) | (with_reducible exact decide_eq_true ⟨rfl, rfl⟩) | (simp; done))))
          refine g_yes hE rfl rfl ?_
          refine s_loadN hE rfl (hM.get 0 rfl) row23 rfl (by intro X h; cases h) rfl ?_; clear hE a; intro a hE
          refine g_yes hE rfl rfl ?_
          refine s_fieldAddr hE rfl fo84_0 rfl ?_; clear hE a; intro a hE
          refine g_yes hE rfl rfl ?_
          refine s_loadN hE rfl (hM.get 4 rfl) row23 rfl (by intro X h; cases h) rfl ?_; clear hE a; intro a hE
          refine g_yes hE rfl rfl ?_
          refine s_bin hE rfl rfl (eqa23 hl_x hl_x).1 rfl ?_; clear hE a; intro a hE
          refine s_pickt hE rfl rfl rfl ?_; clear hE a; intro a hE
          refine s_move hE rfl rfl ?_; clear hE a; intro a hE
          replace hE := hE.cast 132 rfl (show _ = Value.bool true from (congrArg Value.bool (by first | (with_reducible exact decide_eq_true rfl) | (with_reducible exact decide_eq_true ⟨rfl, rfl⟩) | (simp; done))))
          refine g_yes hE rfl rfl ?_
          refine s_call hE rfl Tryd.call28 (awake25_c  _ (hM.get 6 rfl) (hM.get 7 rfl)) rfl ?_
          rintro e w18 ⟨rfl, hN⟩
          refine ⟨_, rfl, trivial, ?_⟩; clear hE a; intro a hE
          replace hM : Mem _ _ w18 [_, _, _, _, _, _, _, _] := hM.call0 hN trivial; clear hN
          refine s_pickt hE rfl rfl rfl ?_; clear hE a; intro a hE
          refine s_assign hE rfl rfl ?_; clear hE a; intro a hE
          refine q_nil ?_
          replace hE : Env a 135 [(3, _), (4, _), (6, _), (7, _), (8, _), (10, _), (11, _), (12, _), (13, _), (15, _), (16, _), (17, _), (23, _), (40, _), (71, _), (84, _), (100, _)] := hE.sel [3, 4, 6, 7, 8, 10, 11, 12, 13, 15, 16, 17, 23, 40, 71, 84, 100] rfl
          refine hK18 _ _ ?_
          refine wp_ret ?_
          refine f_ret1 hE rfl rfl ?_
          exact ⟨(by first | rfl | (simp; done)), hM.pick [] rfl⟩
set_option maxRecDepth 100000 in
theorem slotsOpen_lifted (os : Os) (started : os.Started) (H : Type) (enc : TypeId × Value → H) :
    ReturnsInHanded {} Tryd.checked os 11 .any (fun w args => (Rows.slotsOpenSpec.pre enc Tryd.prog Tryd.f11 [] false w args ∧ laidMetH Tryd.prog Rows.slotsOpenRow.laid w) ∧ sizedMet enc Tryd.prog Tryd.f11 (OpenSpec.ofChange Rows.slotsOpenSpec) false w args) (Rows.slotsOpenSpec.post enc Tryd.prog Tryd.f11 false true false false) := by
  refine law_liftedL (C := Tryd.checked) (fn := Tryd.f11) (l := Rows.slotsOpenRow.laid) (by kernel_rfl) started (by kernel_rfl) Tryd.func11 rfl (fun ds hl => ?_) rfl Tryd.underlying4 (by kernel_rfl) (of_decide_eq_true (by kernel_rfl)) (by kernel_rfl)
    (ChangeSpec.witness_shaped (enc := enc) (C := Tryd.checked) (os := os) (X := fun w _ => laidMetH Tryd.prog Rows.slotsOpenRow.laid w) false (World.laidAll Tryd.prog os Rows.slotsOpenRow.laid) #[.agg ([[.int .i64 0], [.int .i64 0]] ++ [[.bool false], [.int .u64 0], bv (List.replicate 64 0)] ++ [[.bool false], [.int .u64 0], bv (List.replicate 64 0)] ++ (List.replicate 4 [[.bool false], [.int .i64 0], bv (List.replicate 80 0)]).flatten : List (List Value)).flatten.toArray, .agg (bv (List.replicate 32 0) ++ [Value.string .empty] ++ bv (List.replicate 16 0) ++ [Value.int .i64 0]).toArray, .int .u8 0] 8 (World.laidAll_os _ _ _) (World.shaped_of_ZipB (by kernel_rfl) (by kernel_rfl)) (by kernel_rfl) (by kernel_rfl) (by kernel_rfl) (by rw [MakeChecks.laidMetH_plain _ _ _ (by kernel_rfl)]; exact laidMet_laidAll _ (by kernel_rfl) (by kernel_rfl))) ?_
  · rw [Tryd.params11] at hl
    match ds, hl with
    | [_, _, _], _ => rfl
  · intro W base args ds ps hval hA hw hL
    have hG := glb_of_laid (P := Tryd.prog) (g := 1) (t := 170) (e := 129) (by kernel_rfl) (by kernel_rfl) Tryd.underlying170 Tryd.underlying129 (by kernel_rfl) (by kernel_rfl) (by kernel_rfl) (show laidMet Tryd.prog (_ :: _) W from (laidMet_tail (laidMet_tail (laidMet_tail hL))))
    have hT : tabP.holds W := tabE_of_laid (P := Tryd.prog) (g := 0) (t := 163) (e := 24) (n := 20) (by kernel_rfl) (by kernel_rfl) Tryd.underlying163 Tryd.underlying24 (by kernel_rfl) (by kernel_rfl) (by kernel_rfl) (show laidMet Tryd.prog (_ :: _) W from (laidMet_tail (laidMet_tail hL)))
    rw [Tryd.params11] at hA hval hw
    obtain ⟨v0, vs0, d0, ds0, p0, q0, hargs, rfl, rfl, h0, r0⟩ := trodAll_cons hA
    obtain ⟨v1, vs1, d1, ds1, p1, q1, rfl, rfl, rfl, h1, r1⟩ := trodAll_cons r0
    obtain ⟨v2, vs2, d2, ds2, p2, q2, rfl, rfl, rfl, h2, r2⟩ := trodAll_cons r1
    obtain ⟨rfl, rfl, rfl⟩ := trodAll_nil r2
    obtain rfl : args = #[v0, v1, v2] := by cases args; simp_all
    obtain ⟨hd0, rfl, hk0⟩ := arg_hd (⟨62, 52, 55, 54, 60, 59, 29, 23, 27, 57, 3, 4, 24, 5, _, _, _, _, _, Tryd.underlying62, Tryd.underlying52, Tryd.underlying55, Tryd.underlying54, Tryd.underlying60, Tryd.underlying59, Tryd.underlying29, Tryd.underlying23, Tryd.underlying27, Tryd.underlying57, Tryd.underlying3, Tryd.underlying4, Tryd.underlying24, Tryd.underlying5, by kernel_rfl, by kernel_rfl, by kernel_rfl, by kernel_rfl, by kernel_rfl, by kernel_rfl, by kernel_rfl, by kernel_rfl, by kernel_rfl, by kernel_rfl, by kernel_rfl, by kernel_rfl, by kernel_rfl, by kernel_rfl, by kernel_rfl, by kernel_rfl⟩ : HdT Tryd.prog) (hval 0 62 v0 rfl rfl) h0 (fun m hm => hw m (by simp only [DataW.weightsEach, List.mem_append]; exact .inl hm))
    rw [hd_cells hd0]
    obtain ⟨cs1, rfl, hcs1⟩ := okWide_struct Tryd.underlying84 (hval 1 84 v1 rfl rfl)
    obtain ⟨_, _, _, _, hc1, ⟨xk, rfl, hxk⟩, ⟨sl, rfl, hsl⟩, ⟨xb, rfl, hxb⟩, ⟨xz, rfl, hx1, hx2⟩⟩ := trod_of (dec_f4 (t := 84) (s := 50) (n0 := 32) (n1 := 1) (n2 := 16) (n3 := 1) (o2 := 33) (o3 := 49) Tryd.underlying84 (by kernel_rfl) (by kernel_rfl) rfl rfl rfl (dec_arr8 (n := 32) Tryd.underlying23 Tryd.underlying5 (by kernel_rfl) (by kernel_rfl)) (dec_string Tryd.underlying9) (dec_arr8 (n := 16) Tryd.underlying57 Tryd.underlying5 (by kernel_rfl) (by kernel_rfl)) (dec_int Tryd.underlying3)) h1 (fun m hm => hw m (by simp only [DataW.weightsEach, List.mem_append]; exact .inr (.inl hm)))
    obtain ⟨p, rfl⟩ := str_of sl
    have ecs1 := agg_of hc1
    subst ecs1
    obtain ⟨z2, rfl, hz2, hy2⟩ := arg_int Tryd.underlying5 (hval 2 5 v2 rfl rfl) h2 (fun m hm => hw m (by simp only [DataW.weightsEach, List.mem_append]; exact .inr (.inr (.inl hm))))
    obtain ⟨ib, rfl⟩ := u8_of hz2 hy2
    have ef4 : ∀ (a b c d : List Value), ([a, b, c, d] : List (List Value)).flatten = a ++ (b ++ (c ++ d)) := fun a b c d => by simp
    exact (by have h := slotsOpen_c hd0 xk p xb xz ib W hG hT hk0 hxk hxb (And.intro hx1 hx2); rw [ef4] at h; exact h)

/-- The row's statement. -/
theorem slotsOpen_row : Rows.SlotsOpenSaid :=
  OpenClaim.holds_of_wide 11 Tryd.f11 rfl rfl rfl rfl rfl rfl rfl ⟨rfl, rfl, rfl, rfl, rfl⟩ rfl rfl rfl rfl rfl (by kernel_rfl) Tryd.func11 (by kernel_rfl)
    (of_decide_eq_true (by kernel_rfl)) (by unfold Func.isWrapper; first | (rw [if_pos (by decide +kernel)]; kernel_rfl) | (rw [if_neg (by decide +kernel)]; exact ⟨rfl, rfl⟩))
    (fun os started H enc _ => slotsOpen_lifted os started H enc)

/-- The statement: the row, its listed variable tied to the program's text. -/
theorem slotsOpen_holds : Rows.SlotsOpenCardSaid :=
  Claim7.holds_tied_plain_at .later [] [.data, .data, .data, .data] true (true, "260fdf816069b3bf8e1fff31512b0488977d0f5c26e19155cc996da54a266071") false
    slotsOpen_row (fun _ h => by cases h) (by kernel_rfl) (fun _ h => by cases h) slotsOpen_row_tie rfl ⟨rfl, rfl⟩ (by kernel_rfl) rfl
    (fun f fn hf hfn => by
      obtain rfl : f = 11 := Option.some.inj ((show Tryd.prog.funcNamed "casemate/casematelaw25.SlotsOpen" = some 11 by kernel_rfl).symm.trans hf) |>.symm
      obtain rfl : fn = Tryd.f11 := (Option.some.inj (Tryd.func11.symm.trans hfn)).symm
      exact ⟨by kernel_rfl, fun j t ht => by
        rw [Tryd.params11] at ht
        have h : t ∈ [62, 84, 5] := by
          rcases j with _ | _ | _ | j
          · simp at ht; simp [ht]
          · simp at ht; simp [ht]
          · simp at ht; simp [ht]
          · simp at ht
        simp only [List.mem_cons, List.not_mem_nil, or_false] at h
        rcases h with rfl | rfl | rfl
        · exact (show Tryd.prog.wantsStandIn 62 = false by kernel_rfl)
        · exact (show Tryd.prog.wantsStandIn 84 = false by kernel_rfl)
        · exact (show Tryd.prog.wantsStandIn 5 = false by kernel_rfl)⟩)
    (by kernel_rfl)
#print axioms slotsOpen_holds
end Go.Proofs.YtniekapfoaiieaaDoor
