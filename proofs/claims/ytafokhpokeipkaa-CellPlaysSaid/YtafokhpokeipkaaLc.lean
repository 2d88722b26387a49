/- Walks of functions of the given program that the claim reaches. -/
import Derived.Test.YtafokhpokeipkaaRows
import Derived.Test.YtafokhpokeipkaaKxY2
namespace Go.Proofs.Ytafokhpokeipkaa
open Go Go.Kx
theorem fo56_0 : fieldOff Try.prog 56 0 = some 0 := by kernel_rfl
theorem one37 : OneT Try.prog 37 := OneT.of Try.underlying37 rfl (by kernel_rfl)
theorem zero26 : Zero Try.prog 26 [[.int .u64 0], bv (List.replicate 32 0)] := ⟨.agg ([[.int .u64 0], bv (List.replicate 32 0)] : List (List Value)).flatten.toArray, by kernel_rfl, by kernel_rfl⟩
theorem slt37 : slT Try.prog 37 = some 33 := by kernel_rfl
theorem row26 : RowT Try.prog 26 33 := RowT.of Try.underlying26 rfl (by kernel_rfl)
theorem sz26 : (Try.prog.info? 26).map (·.size) = some 33 := by kernel_rfl
theorem fo26_0 : fieldOff Try.prog 26 0 = some 0 := by kernel_rfl
theorem one22 : OneT Try.prog 22 := OneT.of Try.underlying22 rfl (by kernel_rfl)
theorem sl37 : SlT Try.prog 37 26 33 40 := ⟨Try.underlying37, by kernel_rfl, by kernel_rfl, .agg ([[.int .u64 0], bv (List.replicate 32 0)] : List (List Value)).flatten.toArray, by kernel_rfl, rfl⟩
theorem zero56 : Zero Try.prog 56 [[.slice none 0 0]] := ⟨.agg ([[.slice none 0 0]] : List (List Value)).flatten.toArray, by kernel_rfl, by kernel_rfl⟩
theorem fpl56 : fldPl Try.prog 56 = some (plc 0 [1]) := by kernel_rfl
theorem kl26 : ∀ {k : Nat} {x0 : Int} {x1 : List UInt8} (hx0 : (Lit.int .u64 x0).wf = true) (hx1 : x1.length = 32), KL Try.prog (k + 3) 26 ([[.int .u64 x0], bv x1].flatten) := fun {k} {x0} {x1} hx0 hx1 => KL.struct [1, 32] Try.underlying26 (by kernel_rfl) (by kernel_rfl) (by kernel_rfl) (by simp [*]) [22, 24] (by kernel_rfl) ⟨KL.int Try.underlying22 hx0, KL.arr8 Try.underlying24 Try.underlying5 (by kernel_rfl) (by kernel_rfl) hx1, trivial⟩
theorem eqk26 : ∀ {cs ds : List Value} {b : Bool} {k k' : Nat}, KL Try.prog k 26 cs → KL Try.prog k' 26 ds → (b = true ↔ cs = ds) → Bin Try.prog .eql 26 (.agg cs.toArray) (.agg ds.toArray) (.bool b) ∧ Bin Try.prog .neq 26 (.agg cs.toArray) (.agg ds.toArray) (.bool (!b)) := fun h1 h2 hb => bins_key (m := 3) (by kernel_rfl) rfl (by kernel_rfl) (by rw [Try.underlying26]) h1 h2 hb
theorem row24 : RowT Try.prog 24 32 := RowT.of Try.underlying24 rfl (by kernel_rfl)
theorem fpl26 : fldPl Try.prog 26 = some (plc 0 [1, 32]) := by kernel_rfl
theorem sz37 : (Try.prog.info? 37).map (·.size) = some 1 := by kernel_rfl
theorem fo26_1 : fieldOff Try.prog 26 1 = some 1 := by kernel_rfl
theorem arr24 : arrT Try.prog 24 = some (32, 1) := by kernel_rfl
theorem one5 : OneT Try.prog 5 := OneT.of Try.underlying5 rfl (by kernel_rfl)
theorem cis_c (p : Nat) (v : Value) (hs : List Cl) (c : Nat) (w : World) (hB : (blk p [[v]] [1] 56).holds w) (hr : (rd v 33 hs.length c (cls hs)).holds w) : Calls Try.prog 18 #[.pointer (some ⟨p, 0, none⟩)] w fun e w' => e = .returned (.bool (decide (0 < hs.length))) ∧ Mem w [] w' [] := by
  have hM := Mem.startR2 (e := blkR p [[v]] [1] 56) (f := rd v 33 hs.length c (cls hs)) hB hr rfl rfl
  refine f_enter 13 Try.func18 rfl rfl rfl ?_
  intro a hE
  replace hE : Env a 13 [(0, _)] := hE
  refine wp_seq_k (fun K1 hK1 => ?_)
  refine wp_plain [true] rfl rfl ?_
  refine s_assign hE rfl rfl ?_; clear hE a; intro a hE
  refine q_nil ?_
  refine hK1 _ _ ?_
  refine wp_seq_k (fun K2 hK2 => ?_)
  refine wp_plain [true, true, true, true, true, true, true, true, true, true, true] rfl rfl ?_
  refine s_move hE rfl rfl ?_; clear hE a; intro a hE
  refine s_bin hE rfl rfl (bins_ptr_nil Try.underlying28).2 rfl ?_; clear hE a; intro a hE
  refine s_move hE rfl rfl ?_; clear hE a; intro a hE
  refine g_yes hE rfl rfl ?_
  refine s_move hE rfl rfl ?_; clear hE a; intro a hE
  refine g_yes hE rfl rfl ?_
  refine s_nilCheck hE rfl rfl ?_; clear hE a; intro a hE
  refine g_yes hE rfl rfl ?_
  refine s_fieldAddr hE rfl fo56_0 rfl ?_; clear hE a; intro a hE
  refine g_yes hE rfl rfl ?_
  refine s_load1 hE rfl (blkR_blk (hM.get 0 rfl)) rfl one37 (by intro X h; cases h) rfl ?_; clear hE a; intro a hE
  refine g_yes hE rfl rfl ?_
  refine s_len hE rfl Try.underlying37 (rd_slice (hM.get 1 rfl)) rfl ?_; clear hE a; intro a hE
  refine g_yes hE rfl rfl ?_
  refine s_bin hE rfl rfl bin_gtr rfl ?_; clear hE a; intro a hE
  refine s_pickt hE rfl rfl rfl ?_; clear hE a; intro a hE
  refine s_assign hE rfl rfl ?_; clear hE a; intro a hE
  refine q_nil ?_
  replace hE : Env a 13 [(2, _)] := hE.sel [2] rfl
  refine hK2 _ _ ?_
  refine wp_ret ?_
  refine f_ret1 hE rfl rfl ?_
  exact ⟨by simp, hM.nil⟩
theorem cread_c (p : Nat) (v : Value) (hs : List Cl) (c : Nat) (w : World) (hB : (blk p [[v]] [1] 56).holds w) (hr : (rd v 33 hs.length c (cls hs)).holds w) (hok : ∀ x, x ∈ hs → OkCl x) (h0 : 0 < hs.length) (hl : hs.length ≤ 1000000) : Calls Try.prog 10 #[.pointer (some ⟨p, 0, none⟩)] w fun e w' => e = .returned (.tuple #[.agg (cl (lst hs)).toArray, .int .i64 0]) ∧ Mem w [] w' [] := by
  have hM := Mem.startR2 (e := blkR p [[v]] [1] 56) (f := rd v 33 hs.length c (cls hs)) hB hr rfl rfl
  have hlast : OkCl (hs.getD (hs.length - 1) cl0) := by
    have e : hs.getD (hs.length - 1) cl0 = hs[hs.length - 1] := by simp only [List.getD]; rw [List.getElem?_eq_getElem (by omega)]; rfl
    rw [e]; exact hok _ (List.getElem_mem _)
  refine f_enter 20 Try.func10 rfl rfl rfl ?_
  intro a hE
  replace hE : Env a 20 [(0, _)] := hE
  refine wp_seq_k (fun K1 hK1 => ?_)
  refine wp_plain [false, true] rfl rfl ?_
  refine s_alloc [1, 32] hE hM zero26 rfl rfl ?_; clear hE a; intro a b2 w1 hE hM'
  clear hM; have hM := hM'; clear hM'
  refine s_assign hE rfl rfl ?_; clear hE a; intro a hE
  refine q_nil ?_
  refine hK1 _ _ ?_
  refine wp_seq_k (fun K2 hK2 => ?_)
  refine wp_seq_k (fun K3 hK3 => ?_)
  refine wp_plain [true, false, true] rfl rfl ?_
  refine s_move hE rfl rfl ?_; clear hE a; intro a hE
  refine s_call hE rfl Try.call18 (cis_c p v hs c _ (blkR_blk (hM.get 1 rfl)) (hM.get 2 rfl)) rfl ?_
  rintro e w2 ⟨rfl, hN⟩
  refine ⟨_, rfl, trivial, ?_⟩; clear hE a; intro a hE
  replace hM : Mem _ _ w2 [_, _, _] := hM.call0 hN trivial; clear hN
  refine s_not hE rfl rfl ?_; clear hE a; intro a hE
  refine q_nil ?_
  replace hE : Env a 20 [(0, _), (2, _), (3, _), (6, _)] := hE.sel [0, 2, 3, 6] rfl
  refine hK3 _ _ ?_
  replace hE := hE.cast 6 rfl (show _ = Value.bool false from (congrArg Value.bool (by simp [h0])))
  refine wp_cond_false (hE.eval rfl) ?_
  refine wp_skip ?_
  refine hK2 _ _ ?_
  refine wp_seq_k (fun K4 hK4 => ?_)
  refine wp_drawnM hM (by kernel_rfl) (fun b => b = b2) [(0, true), (1, true), (2, true), (3, true), (4, true), (5, true), (6, true), (7, true), (8, true), (9, true), (10, true), (11, true), (12, false), (13, true)] [(12, [(13, 12)])] (by kernel_rfl) rfl ?_
  intro w3 hM' hww3; clear hM; have hM := hM'; clear hM'
  refine s_move hE rfl rfl ?_; clear hE a; intro a hE
  refine s_nilCheck hE rfl rfl ?_; clear hE a; intro a hE
  refine s_fieldAddr hE rfl fo56_0 rfl ?_; clear hE a; intro a hE
  refine s_load1 hE rfl (blkR_blk (hM.get 1 rfl)) rfl one37 (by intro X h; cases h; intro hx; exact hM.notX 0 1 rfl rfl (by decide) p (by rw [hx]; exact .head _) (.head _)) rfl ?_; clear hE a; intro a hE
  refine s_move hE rfl rfl ?_; clear hE a; intro a hE
  refine s_nilCheck hE rfl rfl ?_; clear hE a; intro a hE
  refine s_fieldAddr hE rfl fo56_0 rfl ?_; clear hE a; intro a hE
  refine s_load1 hE rfl (blkR_blk (hM.get 1 rfl)) rfl one37 (by intro X h; cases h; intro hx; exact hM.notX 0 1 rfl rfl (by decide) p (by rw [hx]; exact .head _) (.head _)) rfl ?_; clear hE a; intro a hE
  refine s_len hE rfl Try.underlying37 (rd_slice (hM.get 2 rfl)) rfl ?_; clear hE a; intro a hE
  refine s_bin (r := .int .i64 ((hs.length - 1 : Nat) : Int)) hE rfl rfl (bin_sub (by rw [wrap_i64 (by omega) (by omega)]; omega)) rfl ?_; clear hE a; intro a hE
  refine s_indexRd (j := (hs.length - 1)) hE rfl (hM.get 2 rfl) rfl slt37 (by first | rfl | omega) (by first | omega | (simp; omega) | decide) rfl ?_; clear hE a; intro a p18 hE hc18 hp18
  rw [cls_elem hok (by omega)] at hc18
  refine s_loadAtN hE rfl hc18 (by rw [cl_len hlast]; exact row26) (by intro X h; cases h; intro b hb hx; subst hx; exact hM.notX 0 2 rfl rfl (by decide) _ (.head _) (hp18 _ hb)) rfl ?_; clear hE a; intro a hE
  replace hM := hM.resplit (ss' := [.int .u64 0 :: bv (List.replicate 32 0)]) (ns' := [33]) rfl rfl
  refine s_storeSeg 0 (vs := cl (hs.getD (hs.length - 1) cl0)) hE rfl rfl hM rfl sz26 (cl_len hlast) (cl_one _) rfl rfl rfl (by intro X h; cases h; rfl) ?_; intro w4 hM'; clear hM; have hM := hM'; clear hM'
  refine s_assign hE rfl rfl ?_; clear hE a; intro a hE
  refine q_nil ?_
  replace hE : Env a 20 [(0, _), (2, _), (3, _), (6, _)] := hE.sel [0, 2, 3, 6] rfl
  refine hK4 _ _ ?_
  refine wp_ret ?_
  refine f_ret2 hE rfl (res_cellN rfl (hM.get 0 rfl) row26 rfl) rfl ?_
  exact ⟨rfl, hM.nil⟩
theorem cnew_ok (c0 : Cl) (w : World) (h0 : OkCl c0) (hm : c0.1 ≤ 4611686018427387904) : Calls Try.prog 7 #[.agg (cl c0).toArray] w fun e w' => ∃ p b, e = .returned (.tuple #[.pointer (some ⟨p, 0, none⟩), .int .i64 0]) ∧ Mem w [] w' [blk p [[.slice (some ⟨b, 0, none⟩) 1 1]] [1] 56, own (.slice (some ⟨b, 0, none⟩) 1 1) 33 1 (cls [c0])] := by
  have hM := Mem.start0 w
  refine f_enter 11 Try.func7 rfl rfl rfl ?_
  intro a hE
  replace hE : Env a 11 [(0, _)] := hE
  refine wp_seq_k (fun K1 hK1 => ?_)
  refine wp_plain [false, true, true] rfl rfl ?_
  refine s_box (ss := [[.int .u64 (c0.1 : Int)], bv c0.2]) [1, 32] hE hM rfl (by simp [cl, Value.cells]) (by simp [h0.1]) rfl ?_; clear hE a; intro a b1 w1 hE hM'
  clear hM; have hM := hM'; clear hM'
  refine s_assign hE rfl rfl ?_; clear hE a; intro a hE
  refine s_assign hE rfl rfl ?_; clear hE a; intro a hE
  refine q_nil ?_
  replace hE : Env a 11 [(1, _), (2, _), (3, _)] := hE.sel [1, 2, 3] rfl
  refine hK1 _ _ ?_
  refine wp_seq_k (fun K2 hK2 => ?_)
  refine wp_seq_k (fun K3 hK3 => ?_)
  refine wp_plain [true, true, true] rfl rfl ?_
  refine s_fieldAddr hE rfl fo26_0 rfl ?_; clear hE a; intro a hE
  refine s_load1 hE rfl (hM.get 0 rfl) rfl one22 (by intro X h; cases h) rfl ?_; clear hE a; intro a hE
  refine s_bin hE rfl rfl bin_gtr rfl ?_; clear hE a; intro a hE
  refine q_nil ?_
  replace hE : Env a 11 [(1, _), (2, _), (3, _), (6, _)] := hE.sel [1, 2, 3, 6] rfl
  refine hK3 _ _ ?_
  replace hE := hE.cast 6 rfl (show _ = Value.bool false from (congrArg Value.bool (decide_eq_false (by omega))))
  refine wp_cond_false (hE.eval rfl) ?_
  refine wp_skip ?_
  refine hK2 _ _ ?_
  refine wp_seq_k (fun K4 hK4 => ?_)
  refine wp_plain [true, false, true, false, true, true] rfl rfl ?_
  refine s_loadN (cs := cl c0) hE rfl (hM.get 0 rfl) row26 rfl (by intro X h; cases h) rfl ?_; clear hE a; intro a hE
  refine s_buildSliceF (xs := [.tmp 7]) (cl c0) hE hM sl37 rfl rfl rfl (by intro v hv; rw [List.mem_singleton.1 hv]; show (cl c0).toArray.size = 33; simp [cl_len h0]) (by simp [Value.cells]) rfl rfl rfl ?_; clear hE a; intro a b8 w2 hE hM'; clear hM; have hM := hM'; clear hM'
  refine s_buildS [[.slice (some ⟨b8, 0, none⟩) 1 1]] hE rfl zero56 rfl fpl56 ⟨rfl, rfl, trivial⟩ rfl ?_; clear hE a; intro a hE
  refine s_box (ss := [[.slice (some ⟨b8, 0, none⟩) 1 1]]) [1] hE hM rfl rfl rfl rfl ?_; clear hE a; intro a b10 w3 hE hM'
  clear hM; have hM := hM'; clear hM'
  refine s_assign hE rfl rfl ?_; clear hE a; intro a hE
  refine s_assign hE rfl rfl ?_; clear hE a; intro a hE
  refine q_nil ?_
  replace hE : Env a 11 [(1, _), (2, _), (3, _), (6, _)] := hE.sel [1, 2, 3, 6] rfl
  refine hK4 _ _ ?_
  refine wp_ret ?_
  refine f_ret2 hE rfl rfl rfl ?_
  refine ⟨_, b8, rfl, ?_⟩
  rw [show cls [c0] = cl c0 from by simp [cls]]
  exact hM.pick [0, 1] rfl
theorem cnew_bad (c0 : Cl) (w : World) (h0 : OkCl c0) (hm : 4611686018427387904 < c0.1) : Calls Try.prog 7 #[.agg (cl c0).toArray] w fun e w' => e = .returned (.tuple #[.pointer none, .int .i64 2]) ∧ Mem w [] w' [] := by
  have hM := Mem.start0 w
  refine f_enter 11 Try.func7 rfl rfl rfl ?_
  intro a hE
  replace hE : Env a 11 [(0, _)] := hE
  refine wp_seq_k (fun K1 hK1 => ?_)
  refine wp_plain [false, true, true] rfl rfl ?_
  refine s_box (ss := [[.int .u64 (c0.1 : Int)], bv c0.2]) [1, 32] hE hM rfl (by simp [cl, Value.cells]) (by simp [h0.1]) rfl ?_; clear hE a; intro a b1 w1 hE hM'
  clear hM; have hM := hM'; clear hM'
  refine s_assign hE rfl rfl ?_; clear hE a; intro a hE
  refine s_assign hE rfl rfl ?_; clear hE a; intro a hE
  refine q_nil ?_
  replace hE : Env a 11 [(1, _), (2, _), (3, _)] := hE.sel [1, 2, 3] rfl
  refine hK1 _ _ ?_
  refine wp_seq_k (fun K2 hK2 => ?_)
  refine wp_seq_k (fun K3 hK3 => ?_)
  refine wp_plain [true, true, true] rfl rfl ?_
  refine s_fieldAddr hE rfl fo26_0 rfl ?_; clear hE a; intro a hE
  refine s_load1 hE rfl (hM.get 0 rfl) rfl one22 (by intro X h; cases h) rfl ?_; clear hE a; intro a hE
  refine s_bin hE rfl rfl bin_gtr rfl ?_; clear hE a; intro a hE
  refine q_nil ?_
  replace hE : Env a 11 [(1, _), (2, _), (3, _), (6, _)] := hE.sel [1, 2, 3, 6] rfl
  refine hK3 _ _ ?_
  replace hE := hE.cast 6 rfl (show _ = Value.bool true from (congrArg Value.bool (decide_eq_true (by omega))))
  refine wp_cond_true (hE.eval rfl) ?_
  refine wp_seq_k (fun K4 hK4 => ?_)
  refine wp_plain [true, true] rfl rfl ?_
  refine s_assign hE rfl rfl ?_; clear hE a; intro a hE
  refine s_assign hE rfl rfl ?_; clear hE a; intro a hE
  refine q_nil ?_
  refine hK4 _ _ ?_
  refine wp_ret ?_
  refine q_then_r ?_
  refine f_ret2 hE rfl rfl rfl ?_
  exact ⟨rfl, hM.nil⟩
theorem cclone_some (q : Addr) (n k : Nat) (hs : List Cl) (c : Nat) (w : World) (hr : (rd (.slice (some q) n k) 33 hs.length c (cls hs)).holds w) (hl : hs.length ≤ 1000000) : Calls Try.prog 19 #[.slice (some q) n k] w fun e w' => ∃ v', e = .returned v' ∧ Mem w [] w' [own v' 33 hs.length (cls hs)] := by
  have hM := Mem.startR1 hr rfl
  refine f_enter 8 Try.func19 rfl rfl rfl ?_
  intro a hE
  replace hE : Env a 8 [(0, _)] := hE
  refine wp_seq_k (fun K1 hK1 => ?_)
  refine wp_plain [true] rfl rfl ?_
  refine s_assign hE rfl rfl ?_; clear hE a; intro a hE
  refine q_nil ?_
  refine hK1 _ _ ?_
  refine wp_seq_k (fun K2 hK2 => ?_)
  refine wp_seq_k (fun K3 hK3 => ?_)
  refine wp_plain [true, true] rfl rfl ?_
  refine s_move hE rfl rfl ?_; clear hE a; intro a hE
  refine s_bin hE rfl rfl (bins_sl_nil Try.underlying37).1 rfl ?_; clear hE a; intro a hE
  replace hE := hE.cast 4 rfl (show _ = Value.bool false from rfl)
  refine q_nil ?_
  replace hE : Env a 8 [(0, _), (2, _), (4, _)] := hE.sel [0, 2, 4] rfl
  refine hK3 _ _ ?_
  refine wp_cond_false (hE.eval rfl) ?_
  refine wp_skip ?_
  refine hK2 _ _ ?_
  refine wp_seq_k (fun K4 hK4 => ?_)
  refine wp_plain [false, true, false, true] rfl rfl ?_
  refine s_buildSlice (xs := []) ([]) hE hM sl37 rfl rfl rfl (by intro v hv; cases hv) rfl rfl rfl rfl ?_; clear hE a; intro a v5 w1 hE hM'
  clear hM; have hM := hM'; clear hM'
  refine s_move hE rfl rfl ?_; clear hE a; intro a hE
  have hy := hM.get 1 rfl
  refine s_append hE rfl rfl hM sl37 (Src.rd Try.underlying37 hy (cls_one _)) (len47 (by omega)) (by omega) (by intro X h; cases h) rfl ?_; clear hE a hy; intro a v7 w2 hE hM'
  clear hM; have hM := hM'; clear hM'
  refine s_assign hE rfl rfl ?_; clear hE a; intro a hE
  refine q_nil ?_
  replace hE : Env a 8 [(0, _), (2, _), (4, _)] := hE.sel [0, 2, 4] rfl
  refine hK4 _ _ ?_
  refine wp_ret ?_
  refine f_ret1 hE rfl rfl ?_
  refine ⟨_, rfl, ?_⟩
  replace hM := hM.pick [0] rfl
  simpa using hM
theorem cclone_c (v : Value) (hs : List Cl) (c : Nat) (w : World) (hr : (rd v 33 hs.length c (cls hs)).holds w) (h0 : 0 < hs.length) (hl : hs.length ≤ 1000000) : Calls Try.prog 19 #[v] w fun e w' => ∃ v', e = .returned v' ∧ Mem w [] w' [own v' 33 hs.length (cls hs)] := by
  have hr' := hr
  obtain ⟨_, ⟨q, rfl, h1, rfl⟩ | ⟨b, o, rfl, h1, h2, h3⟩⟩ := hr
  · omega
  · exact cclone_some _ _ _ hs _ w hr' hl
theorem chist_c (p : Nat) (v : Value) (hs : List Cl) (c : Nat) (w : World) (hB : (blk p [[v]] [1] 56).holds w) (hr : (rd v 33 hs.length c (cls hs)).holds w) (h0 : 0 < hs.length) (hl : hs.length ≤ 1000000) : Calls Try.prog 11 #[.pointer (some ⟨p, 0, none⟩)] w fun e w' => ∃ v', e = .returned v' ∧ Mem w [] w' [own v' 33 hs.length (cls hs)] := by
  have hM := Mem.startR2 (e := blkR p [[v]] [1] 56) (f := rd v 33 hs.length c (cls hs)) hB hr rfl rfl
  refine f_enter 11 Try.func11 rfl rfl rfl ?_
  intro a hE
  replace hE : Env a 11 [(0, _)] := hE
  refine wp_seq_k (fun K1 hK1 => ?_)
  refine wp_plain [true] rfl rfl ?_
  refine s_assign hE rfl rfl ?_; clear hE a; intro a hE
  refine q_nil ?_
  refine hK1 _ _ ?_
  refine wp_seq_k (fun K2 hK2 => ?_)
  refine wp_seq_k (fun K3 hK3 => ?_)
  refine wp_plain [true, false, true] rfl rfl ?_
  refine s_move hE rfl rfl ?_; clear hE a; intro a hE
  refine s_call hE rfl Try.call18 (cis_c p v hs c _ (blkR_blk (hM.get 0 rfl)) (hM.get 1 rfl)) rfl ?_
  rintro e w1 ⟨rfl, hN⟩
  refine ⟨_, rfl, trivial, ?_⟩; clear hE a; intro a hE
  replace hM : Mem _ _ w1 [_, _] := hM.call0 hN trivial; clear hN
  refine s_not hE rfl rfl ?_; clear hE a; intro a hE
  refine q_nil ?_
  replace hE : Env a 11 [(0, _), (2, _), (5, _)] := hE.sel [0, 2, 5] rfl
  refine hK3 _ _ ?_
  replace hE := hE.cast 5 rfl (show _ = Value.bool false from (congrArg Value.bool (by simp [h0])))
  refine wp_cond_false (hE.eval rfl) ?_
  refine wp_skip ?_
  refine hK2 _ _ ?_
  refine wp_seq_k (fun K4 hK4 => ?_)
  refine wp_plain [true, true, true, true, false, true] rfl rfl ?_
  refine s_move hE rfl rfl ?_; clear hE a; intro a hE
  refine s_nilCheck hE rfl rfl ?_; clear hE a; intro a hE
  refine s_fieldAddr hE rfl fo56_0 rfl ?_; clear hE a; intro a hE
  refine s_load1 hE rfl (blkR_blk (hM.get 0 rfl)) rfl one37 (by intro X h; cases h) rfl ?_; clear hE a; intro a hE
  refine s_call hE rfl Try.call19 (cclone_c v hs c _ (hM.get 1 rfl) h0 hl) rfl ?_
  rintro e w2 ⟨vh, rfl, hN⟩
  refine ⟨_, rfl, trivial, ?_⟩; clear hE a; intro a hE
  replace hM : Mem _ _ w2 [_, _, _] := hM.call0 hN ⟨rfl, trivial⟩; clear hN
  refine s_assign hE rfl rfl ?_; clear hE a; intro a hE
  refine q_nil ?_
  replace hE : Env a 11 [(0, _), (2, _), (5, _)] := hE.sel [0, 2, 5] rfl
  refine hK4 _ _ ?_
  refine wp_ret ?_
  refine f_ret1 hE rfl rfl ?_
  exact ⟨_, rfl, hM.pick [0] rfl⟩
theorem klCl {c : Cl} (h : OkCl c) : KL Try.prog 3 26 (cl c) := by
  have h2 := h.2
  have := kl26 (k := 0) (x0 := (c.1 : Int)) (x1 := c.2) (by simp [Lit.wf, IntKind.min, IntKind.max, IntKind.signed, IntKind.bits]; omega) h.1
  simpa [cl] using this
theorem eqCl {a b : Cl} (ha : OkCl a) (hb : OkCl b) : Bin Try.prog .eql 26 (.agg (cl a).toArray) (.agg (cl b).toArray) (.bool (decide (a = b))) ∧ Bin Try.prog .neq 26 (.agg (cl a).toArray) (.agg (cl b).toArray) (.bool (!decide (a = b))) :=
  eqk26 (klCl ha) (klCl hb) (by rw [decide_eq_true_eq, cl_inj])
theorem cadv_own (p : Nat) (v : Value) (hs : List Cl) (lab : List UInt8) (w : World) (hB : (blk p [[v]] [1] 56).holds w) (hr : (own v 33 hs.length (cls hs)).holds w) (hne : p ∉ valBlocks v) (hok : ∀ x, x ∈ hs → OkCl x) (h0 : 0 < hs.length) (hl : hs.length ≤ 100000) (hlab : lab.length = 32) (hm : (lst hs).1 < mostC) : Calls Try.prog 9 #[.pointer (some ⟨p, 0, none⟩), .agg (bv lab).toArray] w fun e w' => ∃ v', e = .returned (.tuple #[.int .u64 (((lst hs).1 + 1 : Nat) : Int), .int .i64 0]) ∧ Mem w (p :: valBlocks v) w' [blk p [[v']] [1] 56, own v' 33 (hs ++ [((lst hs).1 + 1, lab)]).length (cls (hs ++ [((lst hs).1 + 1, lab)]))] := by
  have hM := Mem.startBO hB hr hne
  have hlast := (hok _ (lst_mem h0)).1
  have eM : mostC = 4611686018427387904 := rfl
  refine f_enter 37 Try.func9 rfl rfl rfl ?_
  intro a hE
  replace hE : Env a 37 [(0, _), (1, _)] := hE
  refine wp_seq_k (fun K1 hK1 => ?_)
  refine wp_plain [false, true, true] rfl rfl ?_
  refine s_box (ss := [bv lab]) [32] hE hM rfl (by simp [Value.cells]) (by simp [hlab]) rfl ?_; clear hE a; intro a b3 w1 hE hM'
  clear hM; have hM := hM'; clear hM'
  refine s_assign hE rfl rfl ?_; clear hE a; intro a hE
  refine s_assign hE rfl rfl ?_; clear hE a; intro a hE
  refine q_nil ?_
  replace hE : Env a 37 [(0, _), (3, _), (4, _), (5, _)] := hE.sel [0, 3, 4, 5] rfl
  refine hK1 _ _ ?_
  refine wp_seq_k (fun K2 hK2 => ?_)
  refine wp_plain [true, false, true, true, true, false, false, true] rfl rfl ?_
  refine s_move hE rfl rfl ?_; clear hE a; intro a hE
  obtain ⟨cr, hr0⟩ := own_rd (hM.get 2 rfl)
  refine s_call hE rfl Try.call10 (cread_c p v hs _ _ (hM.get 1 rfl) hr0 hok h0 (by omega)) rfl ?_
  rintro e w2 ⟨rfl, hN⟩
  refine ⟨_, rfl, trivial, ?_⟩; clear hE a; intro a hE
  replace hM : Mem _ _ w2 [_, _, _] := hM.call0 hN trivial; clear hN
  refine s_move hE rfl rfl ?_; clear hE a; intro a hE
  refine s_extract hE rfl rfl rfl ?_; clear hE a; intro a hE
  refine s_extract hE rfl rfl rfl ?_; clear hE a; intro a hE
  refine s_alloc [1, 32] hE hM zero26 rfl rfl ?_; clear hE a; intro a b6 w3 hE hM'
  clear hM; have hM := hM'; clear hM'
  refine s_storeSegs 0 2 (vss := [[.int .u64 ((lst hs).1 : Int)], bv (lst hs).2]) hE rfl rfl hM (show (Value.agg (cl (lst hs)).toArray).cells = _ by simp [Value.cells, cl]) sz26 (by simp [hlast]) (by decide) rfl (one_fl ⟨one1 rfl, bv_one _, trivial⟩) rfl (by intro X h; cases h) ?_; intro w4 hM'; clear hM; have hM := hM'; clear hM'
  simp only [List.take_zero, List.take_succ_cons, List.drop_zero, List.drop_succ_cons, List.take_nil, List.drop_nil, List.nil_append, List.append_nil, List.cons_append] at hM
  refine s_assign hE rfl rfl ?_; clear hE a; intro a hE
  refine q_nil ?_
  replace hE : Env a 37 [(0, _), (3, _), (4, _), (5, _), (6, _), (7, _)] := hE.sel [0, 3, 4, 5, 6, 7] rfl
  refine hK2 _ _ ?_
  refine wp_seq_k (fun K3 hK3 => ?_)
  refine wp_seq_k (fun K4 hK4 => ?_)
  refine wp_plain [true, true] rfl rfl ?_
  refine s_move hE rfl rfl ?_; clear hE a; intro a hE
  refine s_bin hE rfl rfl bin_neq rfl ?_; clear hE a; intro a hE
  refine q_nil ?_
  replace hE : Env a 37 [(0, _), (3, _), (4, _), (5, _), (6, _), (7, _), (15, _)] := hE.sel [0, 3, 4, 5, 6, 7, 15] rfl
  refine hK4 _ _ ?_
  replace hE := hE.cast 15 rfl (show _ = Value.bool false from (congrArg Value.bool (by decide)))
  refine wp_cond_false (hE.eval rfl) ?_
  refine wp_skip ?_
  refine hK3 _ _ ?_
  refine wp_seq_k (fun K5 hK5 => ?_)
  refine wp_seq_k (fun K6 hK6 => ?_)
  refine wp_plain [true, true, true] rfl rfl ?_
  refine s_fieldAddr hE rfl fo26_0 rfl ?_; clear hE a; intro a hE
  refine s_load1 hE rfl (hM.get 0 rfl) rfl one22 (by intro X h; cases h) rfl ?_; clear hE a; intro a hE
  refine s_bin hE rfl rfl bin_eql rfl ?_; clear hE a; intro a hE
  refine q_nil ?_
  replace hE : Env a 37 [(0, _), (3, _), (4, _), (5, _), (6, _), (7, _), (15, _), (19, _)] := hE.sel [0, 3, 4, 5, 6, 7, 15, 19] rfl
  refine hK6 _ _ ?_
  replace hE := hE.cast 19 rfl (show _ = Value.bool false from (congrArg Value.bool (decide_eq_false (by have e : mostC = 4611686018427387904 := rfl; omega))))
  refine wp_cond_false (hE.eval rfl) ?_
  refine wp_skip ?_
  refine hK5 _ _ ?_
  refine wp_seq_k (fun K7 hK7 => ?_)
  refine wp_plain [true, true, true, true, true, false, false] rfl rfl ?_
  refine s_fieldAddr hE rfl fo26_0 rfl ?_; clear hE a; intro a hE
  refine s_load1 hE rfl (hM.get 0 rfl) rfl one22 (by intro X h; cases h) rfl ?_; clear hE a; intro a hE
  refine s_bin hE rfl rfl (show Bin _ _ _ _ _ (.int .u64 (((lst hs).1 + 1 : Nat) : Int)) from bin_add (by rw [wrap_u64 (by omega) (by omega)]; omega)) rfl ?_; clear hE a; intro a hE
  refine s_loadN hE rfl (hM.get 1 rfl) row24 rfl (by intro X h; cases h) rfl ?_; clear hE a; intro a hE
  refine s_buildS [[.int .u64 (((lst hs).1 + 1 : Nat) : Int)], bv lab] hE rfl zero26 rfl fpl26 ⟨rfl, rfl, rfl, (by simp [hlab]), trivial⟩ rfl ?_; clear hE a; intro a hE
  refine s_alloc [1, 32] hE hM zero26 rfl rfl ?_; clear hE a; intro a b8 w5 hE hM'
  clear hM; have hM := hM'; clear hM'
  refine s_storeSegs 0 2 (vss := [[.int .u64 (((lst hs).1 + 1 : Nat) : Int)], bv lab]) hE rfl rfl hM rfl sz26 (by simp [hlab]) (by decide) rfl (one_fl ⟨one1 rfl, bv_one _, trivial⟩) rfl (by intro X h; cases h) ?_; intro w6 hM'; clear hM; have hM := hM'; clear hM'
  simp only [List.take_zero, List.take_succ_cons, List.drop_zero, List.drop_succ_cons, List.take_nil, List.drop_nil, List.nil_append, List.append_nil, List.cons_append] at hM
  refine q_nil ?_
  replace hE : Env a 37 [(0, _), (4, _), (5, _), (6, _), (7, _), (8, _), (15, _), (19, _)] := hE.sel [0, 4, 5, 6, 7, 8, 15, 19] rfl
  refine hK7 _ _ ?_
  refine wp_seq_k (fun K8 hK8 => ?_)
  refine wp_drawnM2 hM (by kernel_rfl) (fun _ => False) (fun _ => True) [(0, true), (1, true), (2, true), (3, true), (4, true), (5, true), (6, false)] [(7, false), (8, true), (9, true), (10, false)] [(6, [(7, 6), (8, 6), (9, 6), (10, 6)]), (7, [(8, 7), (9, 7), (10, 7)]), (10, []), (2, [(3, 2), (4, 3), (7, 4), (8, 2), (9, 2), (10, 2)]), (3, [(4, 3), (7, 4), (8, 3), (9, 3), (10, 3)]), (4, [(7, 4), (8, 4), (9, 4), (10, 4)]), (5, [(6, 5), (7, 6), (8, 5), (9, 5), (10, 5)])] (by kernel_rfl) (by kernel_rfl) rfl rfl ?_
  intro w7 hM' hww7; clear hM; have hM := hM'; clear hM'
  refine s_move hE rfl rfl ?_; clear hE a; intro a hE
  refine s_move hE rfl rfl ?_; clear hE a; intro a hE
  refine s_nilCheck hE rfl rfl ?_; clear hE a; intro a hE
  refine s_fieldAddr hE rfl fo56_0 rfl ?_; clear hE a; intro a hE
  refine s_load1 hE rfl (hM.get 3 rfl) rfl one37 (by intro X h; cases h; simp) rfl ?_; clear hE a; intro a hE
  refine s_loadN (cs := cl ((lst hs).1 + 1, lab)) hE rfl (hM.get 0 rfl) row26 rfl (by intro X h; cases h; simp) rfl ?_; clear hE a; intro a hE
  refine s_buildSlice (xs := [.tmp 30]) (cl ((lst hs).1 + 1, lab)) hE hM sl37 rfl rfl rfl (by intro v hv; rw [List.mem_singleton.1 hv]; show (cl ((lst hs).1 + 1, lab)).toArray.size = 33; simp [cl, hlab]) (by simp [Value.cells]) rfl rfl rfl ?_; clear hE a; intro a v31 w8 hE hM'
  clear hM; have hM := hM'; clear hM'
  refine q_nil (q_ph ?_)
  replace hM : Mem _ _ w8 [_, _, _, _, _, _] := hM.pick [5, 0, 1, 2, 3, 4] rfl
  obtain ⟨cy, hy⟩ := own_rd (hM.get 1 rfl)
  refine s_append hE rfl rfl hM sl37 (Src.rd Try.underlying37 hy (cl_one _)) (len47 (by omega)) (by omega) (by intro X h; cases h; first | (simp; done) | simp [valBlocks]) rfl ?_; clear hE a hy; intro a v32 w9 hE hM'
  clear hM; have hM := hM'; clear hM'
  replace hM := hM.ownEq (m' := (hs ++ [((lst hs).1 + 1, lab)]).length) (cs' := cls (hs ++ [((lst hs).1 + 1, lab)])) (by simp) (cls_snoc _ _)
  refine s_nilCheck hE rfl rfl ?_; clear hE a; intro a hE
  refine s_fieldAddr hE rfl fo56_0 rfl ?_; clear hE a; intro a hE
  replace hM : Mem _ _ w9 [_, _, _, _, _, _] := hM.pick [5, 0, 1, 2, 3, 4] rfl
  refine s_store1 0 hE rfl rfl hM (own_one (hM.get 1 rfl)).1 (own_one (hM.get 1 rfl)).2 sz37 rfl rfl (by intro X h; cases h; first | (simp; done) | simp [valBlocks]) ?_; intro w10 hM'; clear hM; have hM := hM'; clear hM'
  refine q_nil ?_
  replace hE : Env a 37 [(0, _), (4, _), (5, _), (6, _), (7, _), (8, _), (15, _), (19, _)] := hE.sel [0, 4, 5, 6, 7, 8, 15, 19] rfl
  refine hK8 _ _ ?_
  refine wp_seq_k (fun K9 hK9 => ?_)
  refine wp_plain [true, true, true, true] rfl rfl ?_
  refine s_fieldAddr hE rfl fo26_0 rfl ?_; clear hE a; intro a hE
  refine s_load1 hE rfl (hM.get 3 rfl) rfl one22 (by intro X h; cases h) rfl ?_; clear hE a; intro a hE
  refine s_assign hE rfl rfl ?_; clear hE a; intro a hE
  refine s_assign hE rfl rfl ?_; clear hE a; intro a hE
  refine q_nil ?_
  replace hE : Env a 37 [(0, _), (4, _), (5, _), (6, _), (7, _), (8, _), (15, _), (19, _)] := hE.sel [0, 4, 5, 6, 7, 8, 15, 19] rfl
  refine hK9 _ _ ?_
  refine wp_ret ?_
  refine f_ret2 hE rfl rfl rfl ?_
  exact ⟨v32, rfl, hM.pick [0, 1] rfl⟩
theorem cadv_own_top (p : Nat) (v : Value) (hs : List Cl) (lab : List UInt8) (w : World) (hB : (blk p [[v]] [1] 56).holds w) (hr : (own v 33 hs.length (cls hs)).holds w) (hne : p ∉ valBlocks v) (hok : ∀ x, x ∈ hs → OkCl x) (h0 : 0 < hs.length) (hl : hs.length ≤ 100000) (hlab : lab.length = 32) (hm : (lst hs).1 = mostC) : Calls Try.prog 9 #[.pointer (some ⟨p, 0, none⟩), .agg (bv lab).toArray] w fun e w' => e = .returned (.tuple #[.int .u64 0, .int .i64 15]) ∧ Mem w (p :: valBlocks v) w' [blk p [[v]] [1] 56, own v 33 hs.length (cls hs)] := by
  have hM := Mem.startBO hB hr hne
  have hlast := (hok _ (lst_mem h0)).1
  have eM : mostC = 4611686018427387904 := rfl
  refine f_enter 37 Try.func9 rfl rfl rfl ?_
  intro a hE
  replace hE : Env a 37 [(0, _), (1, _)] := hE
  refine wp_seq_k (fun K1 hK1 => ?_)
  refine wp_plain [false, true, true] rfl rfl ?_
  refine s_box (ss := [bv lab]) [32] hE hM rfl (by simp [Value.cells]) (by simp [hlab]) rfl ?_; clear hE a; intro a b3 w1 hE hM'
  clear hM; have hM := hM'; clear hM'
  refine s_assign hE rfl rfl ?_; clear hE a; intro a hE
  refine s_assign hE rfl rfl ?_; clear hE a; intro a hE
  refine q_nil ?_
  replace hE : Env a 37 [(0, _), (3, _), (4, _), (5, _)] := hE.sel [0, 3, 4, 5] rfl
  refine hK1 _ _ ?_
  refine wp_seq_k (fun K2 hK2 => ?_)
  refine wp_plain [true, false, true, true, true, false, false, true] rfl rfl ?_
  refine s_move hE rfl rfl ?_; clear hE a; intro a hE
  obtain ⟨cr, hr0⟩ := own_rd (hM.get 2 rfl)
  refine s_call hE rfl Try.call10 (cread_c p v hs _ _ (hM.get 1 rfl) hr0 hok h0 (by omega)) rfl ?_
  rintro e w2 ⟨rfl, hN⟩
  refine ⟨_, rfl, trivial, ?_⟩; clear hE a; intro a hE
  replace hM : Mem _ _ w2 [_, _, _] := hM.call0 hN trivial; clear hN
  refine s_move hE rfl rfl ?_; clear hE a; intro a hE
  refine s_extract hE rfl rfl rfl ?_; clear hE a; intro a hE
  refine s_extract hE rfl rfl rfl ?_; clear hE a; intro a hE
  refine s_alloc [1, 32] hE hM zero26 rfl rfl ?_; clear hE a; intro a b6 w3 hE hM'
  clear hM; have hM := hM'; clear hM'
  refine s_storeSegs 0 2 (vss := [[.int .u64 ((lst hs).1 : Int)], bv (lst hs).2]) hE rfl rfl hM (show (Value.agg (cl (lst hs)).toArray).cells = _ by simp [Value.cells, cl]) sz26 (by simp [hlast]) (by decide) rfl (one_fl ⟨one1 rfl, bv_one _, trivial⟩) rfl (by intro X h; cases h) ?_; intro w4 hM'; clear hM; have hM := hM'; clear hM'
  simp only [List.take_zero, List.take_succ_cons, List.drop_zero, List.drop_succ_cons, List.take_nil, List.drop_nil, List.nil_append, List.append_nil, List.cons_append] at hM
  refine s_assign hE rfl rfl ?_; clear hE a; intro a hE
  refine q_nil ?_
  replace hE : Env a 37 [(0, _), (3, _), (4, _), (5, _), (6, _), (7, _)] := hE.sel [0, 3, 4, 5, 6, 7] rfl
  refine hK2 _ _ ?_
  refine wp_seq_k (fun K3 hK3 => ?_)
  refine wp_seq_k (fun K4 hK4 => ?_)
  refine wp_plain [true, true] rfl rfl ?_
  refine s_move hE rfl rfl ?_; clear hE a; intro a hE
  refine s_bin hE rfl rfl bin_neq rfl ?_; clear hE a; intro a hE
  refine q_nil ?_
  replace hE : Env a 37 [(0, _), (3, _), (4, _), (5, _), (6, _), (7, _), (15, _)] := hE.sel [0, 3, 4, 5, 6, 7, 15] rfl
  refine hK4 _ _ ?_
  replace hE := hE.cast 15 rfl (show _ = Value.bool false from (congrArg Value.bool (by decide)))
  refine wp_cond_false (hE.eval rfl) ?_
  refine wp_skip ?_
  refine hK3 _ _ ?_
  refine wp_seq_k (fun K5 hK5 => ?_)
  refine wp_seq_k (fun K6 hK6 => ?_)
  refine wp_plain [true, true, true] rfl rfl ?_
  refine s_fieldAddr hE rfl fo26_0 rfl ?_; clear hE a; intro a hE
  refine s_load1 hE rfl (hM.get 0 rfl) rfl one22 (by intro X h; cases h) rfl ?_; clear hE a; intro a hE
  refine s_bin hE rfl rfl bin_eql rfl ?_; clear hE a; intro a hE
  refine q_nil ?_
  replace hE : Env a 37 [(0, _), (3, _), (4, _), (5, _), (6, _), (7, _), (15, _), (19, _)] := hE.sel [0, 3, 4, 5, 6, 7, 15, 19] rfl
  refine hK6 _ _ ?_
  replace hE := hE.cast 19 rfl (show _ = Value.bool true from (congrArg Value.bool (by simp [hm, mostC])))
  refine wp_cond_true (hE.eval rfl) ?_
  refine wp_seq_k (fun K7 hK7 => ?_)
  refine wp_plain [true, true] rfl rfl ?_
  refine s_assign hE rfl rfl ?_; clear hE a; intro a hE
  refine s_assign hE rfl rfl ?_; clear hE a; intro a hE
  refine q_nil ?_
  refine hK7 _ _ ?_
  refine wp_ret ?_
  refine q_then_r ?_
  refine f_ret2 hE rfl rfl rfl ?_
  exact ⟨rfl, hM.pick [2, 3] rfl⟩
theorem cadv_rd (p : Nat) (v : Value) (hs : List Cl) (lab : List UInt8) (w : World) (hB : (blk p [[v]] [1] 56).holds w) (hr : (rd v 33 hs.length hs.length (cls hs)).holds w) (hne : p ∉ rdB v hs.length) (hok : ∀ x, x ∈ hs → OkCl x) (h0 : 0 < hs.length) (hl : hs.length ≤ 100000) (hlab : lab.length = 32) (hm : (lst hs).1 < mostC) : Calls Try.prog 9 #[.pointer (some ⟨p, 0, none⟩), .agg (bv lab).toArray] w fun e w' => ∃ v', e = .returned (.tuple #[.int .u64 (((lst hs).1 + 1 : Nat) : Int), .int .i64 0]) ∧ Mem w ([p]) w' [blk p [[v']] [1] 56, own v' 33 (hs ++ [((lst hs).1 + 1, lab)]).length (cls (hs ++ [((lst hs).1 + 1, lab)]))] := by
  have hM := Mem.startBR hB hr hne
  have hlast := (hok _ (lst_mem h0)).1
  have eM : mostC = 4611686018427387904 := rfl
  refine f_enter 37 Try.func9 rfl rfl rfl ?_
  intro a hE
  replace hE : Env a 37 [(0, _), (1, _)] := hE
  refine wp_seq_k (fun K1 hK1 => ?_)
  refine wp_plain [false, true, true] rfl rfl ?_
  refine s_box (ss := [bv lab]) [32] hE hM rfl (by simp [Value.cells]) (by simp [hlab]) rfl ?_; clear hE a; intro a b3 w1 hE hM'
  clear hM; have hM := hM'; clear hM'
  refine s_assign hE rfl rfl ?_; clear hE a; intro a hE
  refine s_assign hE rfl rfl ?_; clear hE a; intro a hE
  refine q_nil ?_
  replace hE : Env a 37 [(0, _), (3, _), (4, _), (5, _)] := hE.sel [0, 3, 4, 5] rfl
  refine hK1 _ _ ?_
  refine wp_seq_k (fun K2 hK2 => ?_)
  refine wp_plain [true, false, true, true, true, false, false, true] rfl rfl ?_
  refine s_move hE rfl rfl ?_; clear hE a; intro a hE
  refine s_call hE rfl Try.call10 (cread_c p v hs _ _ (hM.get 1 rfl) (hM.get 2 rfl) hok h0 (by omega)) rfl ?_
  rintro e w2 ⟨rfl, hN⟩
  refine ⟨_, rfl, trivial, ?_⟩; clear hE a; intro a hE
  replace hM : Mem _ _ w2 [_, _, _] := hM.call0 hN trivial; clear hN
  refine s_move hE rfl rfl ?_; clear hE a; intro a hE
  refine s_extract hE rfl rfl rfl ?_; clear hE a; intro a hE
  refine s_extract hE rfl rfl rfl ?_; clear hE a; intro a hE
  refine s_alloc [1, 32] hE hM zero26 rfl rfl ?_; clear hE a; intro a b6 w3 hE hM'
  clear hM; have hM := hM'; clear hM'
  refine s_storeSegs 0 2 (vss := [[.int .u64 ((lst hs).1 : Int)], bv (lst hs).2]) hE rfl rfl hM (show (Value.agg (cl (lst hs)).toArray).cells = _ by simp [Value.cells, cl]) sz26 (by simp [hlast]) (by decide) rfl (one_fl ⟨one1 rfl, bv_one _, trivial⟩) rfl (by intro X h; cases h) ?_; intro w4 hM'; clear hM; have hM := hM'; clear hM'
  simp only [List.take_zero, List.take_succ_cons, List.drop_zero, List.drop_succ_cons, List.take_nil, List.drop_nil, List.nil_append, List.append_nil, List.cons_append] at hM
  refine s_assign hE rfl rfl ?_; clear hE a; intro a hE
  refine q_nil ?_
  replace hE : Env a 37 [(0, _), (3, _), (4, _), (5, _), (6, _), (7, _)] := hE.sel [0, 3, 4, 5, 6, 7] rfl
  refine hK2 _ _ ?_
  refine wp_seq_k (fun K3 hK3 => ?_)
  refine wp_seq_k (fun K4 hK4 => ?_)
  refine wp_plain [true, true] rfl rfl ?_
  refine s_move hE rfl rfl ?_; clear hE a; intro a hE
  refine s_bin hE rfl rfl bin_neq rfl ?_; clear hE a; intro a hE
  refine q_nil ?_
  replace hE : Env a 37 [(0, _), (3, _), (4, _), (5, _), (6, _), (7, _), (15, _)] := hE.sel [0, 3, 4, 5, 6, 7, 15] rfl
  refine hK4 _ _ ?_
  replace hE := hE.cast 15 rfl (show _ = Value.bool false from (congrArg Value.bool (by decide)))
  refine wp_cond_false (hE.eval rfl) ?_
  refine wp_skip ?_
  refine hK3 _ _ ?_
  refine wp_seq_k (fun K5 hK5 => ?_)
  refine wp_seq_k (fun K6 hK6 => ?_)
  refine wp_plain [true, true, true] rfl rfl ?_
  refine s_fieldAddr hE rfl fo26_0 rfl ?_; clear hE a; intro a hE
  refine s_load1 hE rfl (hM.get 0 rfl) rfl one22 (by intro X h; cases h) rfl ?_; clear hE a; intro a hE
  refine s_bin hE rfl rfl bin_eql rfl ?_; clear hE a; intro a hE
  refine q_nil ?_
  replace hE : Env a 37 [(0, _), (3, _), (4, _), (5, _), (6, _), (7, _), (15, _), (19, _)] := hE.sel [0, 3, 4, 5, 6, 7, 15, 19] rfl
  refine hK6 _ _ ?_
  replace hE := hE.cast 19 rfl (show _ = Value.bool false from (congrArg Value.bool (decide_eq_false (by have e : mostC = 4611686018427387904 := rfl; omega))))
  refine wp_cond_false (hE.eval rfl) ?_
  refine wp_skip ?_
  refine hK5 _ _ ?_
  refine wp_seq_k (fun K7 hK7 => ?_)
  refine wp_plain [true, true, true, true, true, false, false] rfl rfl ?_
  refine s_fieldAddr hE rfl fo26_0 rfl ?_; clear hE a; intro a hE
  refine s_load1 hE rfl (hM.get 0 rfl) rfl one22 (by intro X h; cases h) rfl ?_; clear hE a; intro a hE
  refine s_bin hE rfl rfl (show Bin _ _ _ _ _ (.int .u64 (((lst hs).1 + 1 : Nat) : Int)) from bin_add (by rw [wrap_u64 (by omega) (by omega)]; omega)) rfl ?_; clear hE a; intro a hE
  refine s_loadN hE rfl (hM.get 1 rfl) row24 rfl (by intro X h; cases h) rfl ?_; clear hE a; intro a hE
  refine s_buildS [[.int .u64 (((lst hs).1 + 1 : Nat) : Int)], bv lab] hE rfl zero26 rfl fpl26 ⟨rfl, rfl, rfl, (by simp [hlab]), trivial⟩ rfl ?_; clear hE a; intro a hE
  refine s_alloc [1, 32] hE hM zero26 rfl rfl ?_; clear hE a; intro a b8 w5 hE hM'
  clear hM; have hM := hM'; clear hM'
  refine s_storeSegs 0 2 (vss := [[.int .u64 (((lst hs).1 + 1 : Nat) : Int)], bv lab]) hE rfl rfl hM rfl sz26 (by simp [hlab]) (by decide) rfl (one_fl ⟨one1 rfl, bv_one _, trivial⟩) rfl (by intro X h; cases h) ?_; intro w6 hM'; clear hM; have hM := hM'; clear hM'
  simp only [List.take_zero, List.take_succ_cons, List.drop_zero, List.drop_succ_cons, List.take_nil, List.drop_nil, List.nil_append, List.append_nil, List.cons_append] at hM
  refine q_nil ?_
  replace hE : Env a 37 [(0, _), (4, _), (5, _), (6, _), (7, _), (8, _), (15, _), (19, _)] := hE.sel [0, 4, 5, 6, 7, 8, 15, 19] rfl
  refine hK7 _ _ ?_
  refine wp_seq_k (fun K8 hK8 => ?_)
  refine wp_drawnM2 hM (by kernel_rfl) (fun _ => False) (fun _ => True) [(0, true), (1, true), (2, true), (3, true), (4, true), (5, true), (6, false)] [(7, false), (8, true), (9, true), (10, false)] [(6, [(7, 6), (8, 6), (9, 6), (10, 6)]), (7, [(8, 7), (9, 7), (10, 7)]), (10, []), (2, [(3, 2), (4, 3), (7, 4), (8, 2), (9, 2), (10, 2)]), (3, [(4, 3), (7, 4), (8, 3), (9, 3), (10, 3)]), (4, [(7, 4), (8, 4), (9, 4), (10, 4)]), (5, [(6, 5), (7, 6), (8, 5), (9, 5), (10, 5)])] (by kernel_rfl) (by kernel_rfl) rfl rfl ?_
  intro w7 hM' hww7; clear hM; have hM := hM'; clear hM'
  refine s_move hE rfl rfl ?_; clear hE a; intro a hE
  refine s_move hE rfl rfl ?_; clear hE a; intro a hE
  refine s_nilCheck hE rfl rfl ?_; clear hE a; intro a hE
  refine s_fieldAddr hE rfl fo56_0 rfl ?_; clear hE a; intro a hE
  refine s_load1 hE rfl (hM.get 3 rfl) rfl one37 (by intro X h; cases h; simp) rfl ?_; clear hE a; intro a hE
  refine s_loadN (cs := cl ((lst hs).1 + 1, lab)) hE rfl (hM.get 0 rfl) row26 rfl (by intro X h; cases h; simp) rfl ?_; clear hE a; intro a hE
  refine s_buildSlice (xs := [.tmp 30]) (cl ((lst hs).1 + 1, lab)) hE hM sl37 rfl rfl rfl (by intro v hv; rw [List.mem_singleton.1 hv]; show (cl ((lst hs).1 + 1, lab)).toArray.size = 33; simp [cl, hlab]) (by simp [Value.cells]) rfl rfl rfl ?_; clear hE a; intro a v31 w8 hE hM'
  clear hM; have hM := hM'; clear hM'
  refine q_nil (q_ph ?_)
  obtain ⟨cy, hy⟩ := own_rd (hM.get 0 rfl)
  refine s_appendFull hE rfl rfl hM (hM.get 5 rfl) sl37 (Src.rd Try.underlying37 hy (cl_one _)) (by decide) (len47 (by omega)) (by omega) rfl ?_; clear hE a hy; intro a v32 w9 hE hM'; clear hM; have hM := hM'; clear hM'
  replace hM := hM.ownEq (m' := (hs ++ [((lst hs).1 + 1, lab)]).length) (cs' := cls (hs ++ [((lst hs).1 + 1, lab)])) (by simp) (cls_snoc _ _)
  refine s_nilCheck hE rfl rfl ?_; clear hE a; intro a hE
  refine s_fieldAddr hE rfl fo56_0 rfl ?_; clear hE a; intro a hE
  replace hM : Mem _ _ w9 [_, _, _, _, _, _, _] := hM.pick [5, 0, 1, 2, 3, 4, 6] rfl
  refine s_store1 0 hE rfl rfl hM (own_one (hM.get 1 rfl)).1 (own_one (hM.get 1 rfl)).2 sz37 rfl rfl (by intro X h; cases h; first | (simp; done) | simp [valBlocks]) ?_; intro w10 hM'; clear hM; have hM := hM'; clear hM'
  refine q_nil ?_
  replace hE : Env a 37 [(0, _), (4, _), (5, _), (6, _), (7, _), (8, _), (15, _), (19, _)] := hE.sel [0, 4, 5, 6, 7, 8, 15, 19] rfl
  refine hK8 _ _ ?_
  refine wp_seq_k (fun K9 hK9 => ?_)
  refine wp_plain [true, true, true, true] rfl rfl ?_
  refine s_fieldAddr hE rfl fo26_0 rfl ?_; clear hE a; intro a hE
  refine s_load1 hE rfl (hM.get 3 rfl) rfl one22 (by intro X h; cases h) rfl ?_; clear hE a; intro a hE
  refine s_assign hE rfl rfl ?_; clear hE a; intro a hE
  refine s_assign hE rfl rfl ?_; clear hE a; intro a hE
  refine q_nil ?_
  replace hE : Env a 37 [(0, _), (4, _), (5, _), (6, _), (7, _), (8, _), (15, _), (19, _)] := hE.sel [0, 4, 5, 6, 7, 8, 15, 19] rfl
  refine hK9 _ _ ?_
  refine wp_ret ?_
  refine f_ret2 hE rfl rfl rfl ?_
  exact ⟨v32, rfl, hM.pick [0, 1] rfl⟩
theorem cadv_rd_top (p : Nat) (v : Value) (hs : List Cl) (lab : List UInt8) (w : World) (hB : (blk p [[v]] [1] 56).holds w) (hr : (rd v 33 hs.length hs.length (cls hs)).holds w) (hne : p ∉ rdB v hs.length) (hok : ∀ x, x ∈ hs → OkCl x) (h0 : 0 < hs.length) (hl : hs.length ≤ 100000) (hlab : lab.length = 32) (hm : (lst hs).1 = mostC) : Calls Try.prog 9 #[.pointer (some ⟨p, 0, none⟩), .agg (bv lab).toArray] w fun e w' => e = .returned (.tuple #[.int .u64 0, .int .i64 15]) ∧ Mem w ([p]) w' [blk p [[v]] [1] 56, rd v 33 hs.length hs.length (cls hs)] := by
  have hM := Mem.startBR hB hr hne
  have hlast := (hok _ (lst_mem h0)).1
  have eM : mostC = 4611686018427387904 := rfl
  refine f_enter 37 Try.func9 rfl rfl rfl ?_
  intro a hE
  replace hE : Env a 37 [(0, _), (1, _)] := hE
  refine wp_seq_k (fun K1 hK1 => ?_)
  refine wp_plain [false, true, true] rfl rfl ?_
  refine s_box (ss := [bv lab]) [32] hE hM rfl (by simp [Value.cells]) (by simp [hlab]) rfl ?_; clear hE a; intro a b3 w1 hE hM'
  clear hM; have hM := hM'; clear hM'
  refine s_assign hE rfl rfl ?_; clear hE a; intro a hE
  refine s_assign hE rfl rfl ?_; clear hE a; intro a hE
  refine q_nil ?_
  replace hE : Env a 37 [(0, _), (3, _), (4, _), (5, _)] := hE.sel [0, 3, 4, 5] rfl
  refine hK1 _ _ ?_
  refine wp_seq_k (fun K2 hK2 => ?_)
  refine wp_plain [true, false, true, true, true, false, false, true] rfl rfl ?_
  refine s_move hE rfl rfl ?_; clear hE a; intro a hE
  refine s_call hE rfl Try.call10 (cread_c p v hs _ _ (hM.get 1 rfl) (hM.get 2 rfl) hok h0 (by omega)) rfl ?_
  rintro e w2 ⟨rfl, hN⟩
  refine ⟨_, rfl, trivial, ?_⟩; clear hE a; intro a hE
  replace hM : Mem _ _ w2 [_, _, _] := hM.call0 hN trivial; clear hN
  refine s_move hE rfl rfl ?_; clear hE a; intro a hE
  refine s_extract hE rfl rfl rfl ?_; clear hE a; intro a hE
  refine s_extract hE rfl rfl rfl ?_; clear hE a; intro a hE
  refine s_alloc [1, 32] hE hM zero26 rfl rfl ?_; clear hE a; intro a b6 w3 hE hM'
  clear hM; have hM := hM'; clear hM'
  refine s_storeSegs 0 2 (vss := [[.int .u64 ((lst hs).1 : Int)], bv (lst hs).2]) hE rfl rfl hM (show (Value.agg (cl (lst hs)).toArray).cells = _ by simp [Value.cells, cl]) sz26 (by simp [hlast]) (by decide) rfl (one_fl ⟨one1 rfl, bv_one _, trivial⟩) rfl (by intro X h; cases h) ?_; intro w4 hM'; clear hM; have hM := hM'; clear hM'
  simp only [List.take_zero, List.take_succ_cons, List.drop_zero, List.drop_succ_cons, List.take_nil, List.drop_nil, List.nil_append, List.append_nil, List.cons_append] at hM
  refine s_assign hE rfl rfl ?_; clear hE a; intro a hE
  refine q_nil ?_
  replace hE : Env a 37 [(0, _), (3, _), (4, _), (5, _), (6, _), (7, _)] := hE.sel [0, 3, 4, 5, 6, 7] rfl
  refine hK2 _ _ ?_
  refine wp_seq_k (fun K3 hK3 => ?_)
  refine wp_seq_k (fun K4 hK4 => ?_)
  refine wp_plain [true, true] rfl rfl ?_
  refine s_move hE rfl rfl ?_; clear hE a; intro a hE
  refine s_bin hE rfl rfl bin_neq rfl ?_; clear hE a; intro a hE
  refine q_nil ?_
  replace hE : Env a 37 [(0, _), (3, _), (4, _), (5, _), (6, _), (7, _), (15, _)] := hE.sel [0, 3, 4, 5, 6, 7, 15] rfl
  refine hK4 _ _ ?_
  replace hE := hE.cast 15 rfl (show _ = Value.bool false from (congrArg Value.bool (by decide)))
  refine wp_cond_false (hE.eval rfl) ?_
  refine wp_skip ?_
  refine hK3 _ _ ?_
  refine wp_seq_k (fun K5 hK5 => ?_)
  refine wp_seq_k (fun K6 hK6 => ?_)
  refine wp_plain [true, true, true] rfl rfl ?_
  refine s_fieldAddr hE rfl fo26_0 rfl ?_; clear hE a; intro a hE
  refine s_load1 hE rfl (hM.get 0 rfl) rfl one22 (by intro X h; cases h) rfl ?_; clear hE a; intro a hE
  refine s_bin hE rfl rfl bin_eql rfl ?_; clear hE a; intro a hE
  refine q_nil ?_
  replace hE : Env a 37 [(0, _), (3, _), (4, _), (5, _), (6, _), (7, _), (15, _), (19, _)] := hE.sel [0, 3, 4, 5, 6, 7, 15, 19] rfl
  refine hK6 _ _ ?_
  replace hE := hE.cast 19 rfl (show _ = Value.bool true from (congrArg Value.bool (by simp [hm, mostC])))
  refine wp_cond_true (hE.eval rfl) ?_
  refine wp_seq_k (fun K7 hK7 => ?_)
  refine wp_plain [true, true] rfl rfl ?_
  refine s_assign hE rfl rfl ?_; clear hE a; intro a hE
  refine s_assign hE rfl rfl ?_; clear hE a; intro a hE
  refine q_nil ?_
  refine hK7 _ _ ?_
  refine wp_ret ?_
  refine q_then_r ?_
  refine f_ret2 hE rfl rfl rfl ?_
  exact ⟨rfl, hM.pick [2, 3] rfl⟩
theorem cadv_c (b : Bool) (p : Nat) (v : Value) (hs : List Cl) (lab : List UInt8) (w : World) (hB : (blk p [[v]] [1] 56).holds w) (hr : (hv b v 33 hs.length (cls hs)).holds w) (hne : p ∉ (hv b v 33 hs.length (cls hs)).fp ∧ p ∉ (hv b v 33 hs.length (cls hs)).ro) (hok : ∀ x, x ∈ hs → OkCl x) (h0 : 0 < hs.length) (hl : hs.length ≤ 100000) (hlab : lab.length = 32) (hm : (lst hs).1 ≤ mostC) :
    Calls Try.prog 9 #[.pointer (some ⟨p, 0, none⟩), .agg (bv lab).toArray] w fun e w' => ∃ v', e = .returned (.tuple #[.int .u64 (advN hs : Int), .int .i64 (advE hs : Int)]) ∧ (∀ x, x ∈ (hv (b || decide ((lst hs).1 < mostC)) v' 33 (advL hs lab).length (cls (advL hs lab))).ro → x ∈ (hv b v 33 hs.length (cls hs)).ro) ∧
      Mem w (p :: (hv b v 33 hs.length (cls hs)).fp) w' [blk p [[v']] [1] 56, hv (b || decide ((lst hs).1 < mostC)) v' 33 (advL hs lab).length (cls (advL hs lab))] := by
  rcases Nat.lt_or_ge (lst hs).1 mostC with hlt | hge
  · simp only [advN, advE, advL, if_pos hlt, decide_eq_true hlt, Bool.or_true]
    cases b
    · exact (cadv_rd p v hs lab w hB hr hne.2 hok h0 hl hlab hlt).mono fun e w' ⟨v', h1, h2⟩ => ⟨v', h1, fun x hx => by (cases hx), h2⟩
    · exact (cadv_own p v hs lab w hB hr hne.1 hok h0 hl hlab hlt).mono fun e w' ⟨v', h1, h2⟩ => ⟨v', h1, fun x hx => by (cases hx), h2⟩
  · have hn : ¬ (lst hs).1 < mostC := by omega
    simp only [advN, advE, advL, if_neg hn, decide_eq_false hn, Bool.or_false]
    cases b
    · exact (cadv_rd_top p v hs lab w hB hr hne.2 hok h0 hl hlab (by omega)).mono fun e w' ⟨h1, h2⟩ => ⟨v, h1, fun x hx => hx, h2⟩
    · exact (cadv_own_top p v hs lab w hB hr hne.1 hok h0 hl hlab (by omega)).mono fun e w' ⟨h1, h2⟩ => ⟨v, h1, fun x hx => hx, h2⟩
theorem cadvO_c (p : Nat) (v : Value) (hs : List Cl) (lab : List UInt8) (w : World) (hB : (blk p [[v]] [1] 56).holds w) (hr : (own v 33 hs.length (cls hs)).holds w) (hne : p ∉ valBlocks v) (hok : ∀ x, x ∈ hs → OkCl x) (h0 : 0 < hs.length) (hl : hs.length ≤ 100000) (hlab : lab.length = 32) (hm : (lst hs).1 ≤ mostC) :
    Calls Try.prog 9 #[.pointer (some ⟨p, 0, none⟩), .agg (bv lab).toArray] w fun e w' => ∃ v', e = .returned (.tuple #[.int .u64 (advN hs : Int), .int .i64 (advE hs : Int)]) ∧
      Mem w (p :: valBlocks v) w' [blk p [[v']] [1] 56, own v' 33 (advL hs lab).length (cls (advL hs lab))] :=
  (cadv_c true p v hs lab w hB hr ⟨hne, List.not_mem_nil⟩ hok h0 hl hlab hm).mono fun e w' ⟨v', h1, _, h2⟩ => ⟨v', h1, h2⟩
theorem ccopy_c (p : Nat) (v : Value) (hs : List Cl) (c : Nat) (w : World) (hB : (blk p [[v]] [1] 56).holds w) (hr : (rd v 33 hs.length c (cls hs)).holds w) (h0 : 0 < hs.length) : Calls Try.prog 13 #[.pointer (some ⟨p, 0, none⟩)] w fun e w' => ∃ q v', e = .returned (.pointer (some ⟨q, 0, none⟩)) ∧ (rd v' 33 hs.length hs.length (cls hs)).holds w' ∧ (∀ x, x ∈ rdB v' hs.length → x ∈ rdB v c) ∧ Mem w [] w' [blk q [[v']] [1] 56] := by
  have hM := Mem.startR2 (e := blkR p [[v]] [1] 56) (f := rd v 33 hs.length c (cls hs)) hB hr rfl rfl
  have hlc := rd_len hr
  refine f_enter 21 Try.func13 rfl rfl rfl ?_
  intro a hE
  replace hE : Env a 21 [(0, _)] := hE
  refine wp_seq_k (fun K1 hK1 => ?_)
  refine wp_plain [true] rfl rfl ?_
  refine s_assign hE rfl rfl ?_; clear hE a; intro a hE
  refine q_nil ?_
  refine hK1 _ _ ?_
  refine wp_seq_k (fun K2 hK2 => ?_)
  refine wp_seq_k (fun K3 hK3 => ?_)
  refine wp_plain [true, false, true] rfl rfl ?_
  refine s_move hE rfl rfl ?_; clear hE a; intro a hE
  refine s_call hE rfl Try.call18 (cis_c p v hs c _ (blkR_blk (hM.get 0 rfl)) (hM.get 1 rfl)) rfl ?_
  rintro e w1 ⟨rfl, hN⟩
  refine ⟨_, rfl, trivial, ?_⟩; clear hE a; intro a hE
  replace hM : Mem _ _ w1 [_, _] := hM.call0 hN trivial; clear hN
  refine s_not hE rfl rfl ?_; clear hE a; intro a hE
  refine q_nil ?_
  replace hE : Env a 21 [(0, _), (2, _), (6, _)] := hE.sel [0, 2, 6] rfl
  refine hK3 _ _ ?_
  replace hE := hE.cast 6 rfl (show _ = Value.bool false from (congrArg Value.bool (by simp [h0])))
  refine wp_cond_false (hE.eval rfl) ?_
  refine wp_skip ?_
  refine hK2 _ _ ?_
  refine wp_seq_k (fun K4 hK4 => ?_)
  refine wp_plain [true, true, true, true, true, true] rfl rfl ?_
  refine s_move hE rfl rfl ?_; clear hE a; intro a hE
  refine s_nilCheck hE rfl rfl ?_; clear hE a; intro a hE
  refine s_fieldAddr hE rfl fo56_0 rfl ?_; clear hE a; intro a hE
  refine s_load1 hE rfl (blkR_blk (hM.get 0 rfl)) rfl one37 (by intro X h; cases h) rfl ?_; clear hE a; intro a hE
  refine s_len hE rfl Try.underlying37 (rd_slice (hM.get 1 rfl)) rfl ?_; clear hE a; intro a hE
  refine s_assign hE rfl rfl ?_; clear hE a; intro a hE
  refine q_nil ?_
  replace hE : Env a 21 [(0, _), (2, _), (3, _), (6, _)] := hE.sel [0, 2, 3, 6] rfl
  refine hK4 _ _ ?_
  refine wp_seq_k (fun K5 hK5 => ?_)
  refine wp_plain [true, true, true, true, true, true, true, true, false, true] rfl rfl ?_
  refine s_move hE rfl rfl ?_; clear hE a; intro a hE
  refine s_nilCheck hE rfl rfl ?_; clear hE a; intro a hE
  refine s_fieldAddr hE rfl fo56_0 rfl ?_; clear hE a; intro a hE
  refine s_load1 hE rfl (blkR_blk (hM.get 0 rfl)) rfl one37 (by intro X h; cases h) rfl ?_; clear hE a; intro a hE
  refine s_move hE rfl rfl ?_; clear hE a; intro a hE
  refine s_move hE rfl rfl ?_; clear hE a; intro a hE
  refine s_slice (l := 0) (h := hs.length) (mx' := hs.length) hE rfl (hM.get 1 rfl) slt37 rfl ⟨_, rfl⟩ ⟨_, rfl⟩ (by simp) (by omega) (by omega) (by omega) (by omega) rfl ?_; clear hE a; intro a v18 hE hr18 hvb18
  replace hr18 := rd_whole hr.1 hr18
  replace hM := hM.addPart 1 rfl hr18 hvb18; clear hr18
  have hv18 := rd_one (hM.get 0 rfl)
  refine s_buildS [[v18]] hE rfl zero56 rfl fpl56 ⟨hv18.1, rfl, trivial⟩ rfl ?_; clear hE a; intro a hE
  refine s_box (ss := [[v18]]) [1] hE hM rfl rfl rfl rfl ?_; clear hE a; intro a q w2 hE hM'
  clear hM; have hM := hM'; clear hM'
  refine s_assign hE rfl rfl ?_; clear hE a; intro a hE
  refine q_nil ?_
  replace hE : Env a 21 [(0, _), (2, _), (6, _)] := hE.sel [0, 2, 6] rfl
  refine hK5 _ _ ?_
  refine wp_ret ?_
  refine f_ret1 hE rfl rfl ?_
  exact ⟨q, v18, rfl, hM.get 1 rfl, hvb18, hM.pick [0] rfl⟩
theorem works12_c (w : World) : Calls Try.prog 8 #[] w fun e w' => e = .returned (.bool true) ∧ Mem w [] w' [] := by
  have hM := Mem.start0 w
  refine f_enter 46 Try.func8 rfl rfl rfl ?_
  intro a hE
  replace hE : Env a 46 [] := hE
  refine wp_seq_k (fun K1 hK1 => ?_)
  refine wp_plain [true] rfl rfl ?_
  refine s_assign hE rfl rfl ?_; clear hE a; intro a hE
  refine q_nil ?_
  refine hK1 _ _ ?_
  refine wp_seq_k (fun K2 hK2 => ?_)
  refine wp_plain [true, false, true, true, true, true, true] rfl rfl ?_
  refine s_build (r := .agg (cl cl0).toArray) _ hE rfl (fun w => by kernel_rfl) rfl ?_; clear hE a; intro a hE
  refine s_call hE rfl Try.call7 (cnew_ok cl0 _ ⟨rfl, by decide⟩ (by decide)) rfl ?_
  rintro e w1 ⟨pc, bc, rfl, hN⟩
  refine ⟨_, rfl, trivial, ?_⟩; clear hE a; intro a hE
  replace hM : Mem _ _ w1 [_, _] := hM.call0 hN ⟨rfl, rfl, trivial⟩; clear hN
  have kc := OkH.one (c0 := cl0) ⟨rfl, by decide⟩ (by decide)
  refine s_move hE rfl rfl ?_; clear hE a; intro a hE
  refine s_extract hE rfl rfl rfl ?_; clear hE a; intro a hE
  refine s_extract hE rfl rfl rfl ?_; clear hE a; intro a hE
  refine s_assign hE rfl rfl ?_; clear hE a; intro a hE
  refine s_assign hE rfl rfl ?_; clear hE a; intro a hE
  refine q_nil ?_
  replace hE : Env a 46 [(0, _), (1, _), (2, _)] := hE.sel [0, 1, 2] rfl
  refine hK2 _ _ ?_
  refine wp_seq_k (fun K3 hK3 => ?_)
  refine wp_seq_k (fun K4 hK4 => ?_)
  refine wp_plain [true, true] rfl rfl ?_
  refine s_move hE rfl rfl ?_; clear hE a; intro a hE
  refine s_bin hE rfl rfl bin_neq rfl ?_; clear hE a; intro a hE
  refine q_nil ?_
  replace hE : Env a 46 [(0, _), (1, _), (13, _)] := hE.sel [0, 1, 13] rfl
  refine hK4 _ _ ?_
  replace hE := hE.cast 13 rfl (show _ = Value.bool false from (congrArg Value.bool (by first | rfl | decide)))
  refine wp_cond_false (hE.eval rfl) ?_
  refine wp_skip ?_
  refine hK3 _ _ ?_
  refine wp_seq_k (fun K5 hK5 => ?_)
  refine wp_plain [true, true, false, true, true, true, true, true] rfl rfl ?_
  refine s_move hE rfl rfl ?_; clear hE a; intro a hE
  refine s_build (r := .agg (bv [7, 0, 0, 0, 0, 0, 0, 0, 0, 0, 0, 0, 0, 0, 0, 0, 0, 0, 0, 0, 0, 0, 0, 0, 0, 0, 0, 0, 0, 0, 0, 0]).toArray) _ hE rfl (fun w => by kernel_rfl) rfl ?_; clear hE a; intro a hE
  have hap := apart_of_get hM.apart (i := 0) (j := 1) rfl rfl (by decide)
  refine s_call hE rfl Try.call9 (cadvO_c pc _ ([cl0]) [7, 0, 0, 0, 0, 0, 0, 0, 0, 0, 0, 0, 0, 0, 0, 0, 0, 0, 0, 0, 0, 0, 0, 0, 0, 0, 0, 0, 0, 0, 0, 0] _ (hM.get 0 rfl) (hM.get 1 rfl) (hap.1 _ (.head _)).1 kc.ok kc.pos (by first | omega | decide) rfl kc.top) rfl ?_; clear hap
  rintro e w2 ⟨vc17, rfl, hN⟩
  refine ⟨_, rfl, trivial, ?_⟩; clear hE a; intro a hE
  replace hM : Mem _ _ w2 [_, _] := hM.call2 hN ⟨rfl, rfl, trivial⟩; clear hN
  have kc17 := kc.adv (lab := [7, 0, 0, 0, 0, 0, 0, 0, 0, 0, 0, 0, 0, 0, 0, 0, 0, 0, 0, 0, 0, 0, 0, 0, 0, 0, 0, 0, 0, 0, 0, 0]) rfl
  have ll17 : (advL ([cl0]) [7, 0, 0, 0, 0, 0, 0, 0, 0, 0, 0, 0, 0, 0, 0, 0, 0, 0, 0, 0, 0, 0, 0, 0, 0, 0, 0, 0, 0, 0, 0, 0]).length = 2 := rfl
  refine s_move hE rfl rfl ?_; clear hE a; intro a hE
  refine s_extract hE rfl rfl rfl ?_; clear hE a; intro a hE
  refine s_extract hE rfl rfl rfl ?_; clear hE a; intro a hE
  refine s_assign hE rfl rfl ?_; clear hE a; intro a hE
  refine s_assign hE rfl rfl ?_; clear hE a; intro a hE
  refine q_nil ?_
  replace hE : Env a 46 [(0, _), (1, _), (3, _), (4, _), (13, _)] := hE.sel [0, 1, 3, 4, 13] rfl
  refine hK5 _ _ ?_
  refine wp_seq_k (fun K6 hK6 => ?_)
  refine wp_plain [true, false, true, true, true, false, false, true] rfl rfl ?_
  refine s_move hE rfl rfl ?_; clear hE a; intro a hE
  obtain ⟨crd22, hrd22⟩ := own_rd (hM.get 1 rfl)
  refine s_call hE rfl Try.call10 (cread_c pc vc17 (advL ([cl0]) [7, 0, 0, 0, 0, 0, 0, 0, 0, 0, 0, 0, 0, 0, 0, 0, 0, 0, 0, 0, 0, 0, 0, 0, 0, 0, 0, 0, 0, 0, 0, 0]) _ _ (hM.get 0 rfl) hrd22 kc17.ok kc17.pos (by first | omega | decide)) rfl ?_
  rintro e w3 ⟨rfl, hN⟩
  refine ⟨_, rfl, trivial, ?_⟩; clear hE a; intro a hE
  replace hM : Mem _ _ w3 [_, _] := hM.call0 hN trivial; clear hN
  refine s_move hE rfl rfl ?_; clear hE a; intro a hE
  refine s_extract hE rfl rfl rfl ?_; clear hE a; intro a hE
  refine s_extract hE rfl rfl rfl ?_; clear hE a; intro a hE
  refine s_alloc [1, 32] hE hM zero26 rfl rfl ?_; clear hE a; intro a b5 w4 hE hM'
  clear hM; have hM := hM'; clear hM'
  refine s_storeSegs 0 2 (vss := [[.int .u64 ((lst (advL ([cl0]) [7, 0, 0, 0, 0, 0, 0, 0, 0, 0, 0, 0, 0, 0, 0, 0, 0, 0, 0, 0, 0, 0, 0, 0, 0, 0, 0, 0, 0, 0, 0, 0])).1 : Int)], bv (lst (advL ([cl0]) [7, 0, 0, 0, 0, 0, 0, 0, 0, 0, 0, 0, 0, 0, 0, 0, 0, 0, 0, 0, 0, 0, 0, 0, 0, 0, 0, 0, 0, 0, 0, 0])).2]) hE rfl rfl hM (show (Value.agg (cl (lst (advL ([cl0]) [7, 0, 0, 0, 0, 0, 0, 0, 0, 0, 0, 0, 0, 0, 0, 0, 0, 0, 0, 0, 0, 0, 0, 0, 0, 0, 0, 0, 0, 0, 0, 0]))).toArray).cells = _ by simp [Value.cells, cl]) sz26 (by simp [kc17.last.1]) (by decide) rfl (one_fl ⟨one1 rfl, bv_one _, trivial⟩) rfl (by intro X h; cases h) ?_; intro w5 hM'; clear hM; have hM := hM'; clear hM'
  simp only [List.take_zero, List.take_succ_cons, List.drop_zero, List.drop_succ_cons, List.take_nil, List.drop_nil, List.nil_append, List.append_nil, List.cons_append] at hM
  refine s_assign hE rfl rfl ?_; clear hE a; intro a hE
  refine q_nil ?_
  replace hE : Env a 46 [(0, _), (1, _), (3, _), (4, _), (5, _), (6, _), (13, _)] := hE.sel [0, 1, 3, 4, 5, 6, 13] rfl
  refine hK6 _ _ ?_
  refine wp_seq_k (fun K7 hK7 => ?_)
  refine wp_plain [true, true, true, true, true, true, true, true, true, true, true, true, true, true, true, true, true, true, true, true, true, true] rfl rfl ?_
  refine s_move hE rfl rfl ?_; clear hE a; intro a hE
  refine s_bin hE rfl rfl bin_eql rfl ?_; clear hE a; intro a hE
  refine s_move hE rfl rfl ?_; clear hE a; intro a hE
  replace hE := hE.cast 27 rfl (show _ = Value.bool true from (congrArg Value.bool (by first | rfl | decide)))
  refine g_yes hE rfl rfl ?_
  refine s_move hE rfl rfl ?_; clear hE a; intro a hE
  refine g_yes hE rfl rfl ?_
  refine s_bin hE rfl rfl bin_eql rfl ?_; clear hE a; intro a hE
  refine s_pickt hE rfl rfl rfl ?_; clear hE a; intro a hE
  refine s_move hE rfl rfl ?_; clear hE a; intro a hE
  replace hE := hE.cast 31 rfl (show _ = Value.bool true from (congrArg Value.bool (by first | rfl | decide)))
  refine g_yes hE rfl rfl ?_
  refine s_move hE rfl rfl ?_; clear hE a; intro a hE
  refine g_yes hE rfl rfl ?_
  refine s_bin hE rfl rfl bin_eql rfl ?_; clear hE a; intro a hE
  refine s_pickt hE rfl rfl rfl ?_; clear hE a; intro a hE
  refine s_move hE rfl rfl ?_; clear hE a; intro a hE
  replace hE := hE.cast 35 rfl (show _ = Value.bool true from (congrArg Value.bool (by first | rfl | decide)))
  refine g_yes hE rfl rfl ?_
  refine s_fieldAddr hE rfl fo26_0 rfl ?_; clear hE a; intro a hE
  refine g_yes hE rfl rfl ?_
  refine s_load1 hE rfl (hM.get 0 rfl) rfl one22 (by intro X h; cases h) rfl ?_; clear hE a; intro a hE
  refine g_yes hE rfl rfl ?_
  refine s_bin hE rfl rfl bin_eql rfl ?_; clear hE a; intro a hE
  refine s_pickt hE rfl rfl rfl ?_; clear hE a; intro a hE
  refine s_move hE rfl rfl ?_; clear hE a; intro a hE
  replace hE := hE.cast 40 rfl (show _ = Value.bool true from (congrArg Value.bool (by first | rfl | decide)))
  refine g_yes hE rfl rfl ?_
  refine s_fieldAddr hE rfl fo26_1 rfl ?_; clear hE a; intro a hE
  refine g_yes hE rfl rfl ?_
  refine s_indexArr (j := 0) hE rfl rfl arr24 (by first | rfl | omega) (by first | omega | decide) rfl ?_; clear hE a; intro a hE
  refine g_yes hE rfl rfl ?_
  replace hM := hM.resplit (ss' := [.int .u64 ((lst (advL [cl0] [7, 0, 0, 0, 0, 0, 0, 0, 0, 0, 0, 0, 0, 0, 0, 0, 0, 0, 0, 0, 0, 0, 0, 0, 0, 0, 0, 0, 0, 0, 0, 0])).1 : Int) :: bv (lst (advL [cl0] [7, 0, 0, 0, 0, 0, 0, 0, 0, 0, 0, 0, 0, 0, 0, 0, 0, 0, 0, 0, 0, 0, 0, 0, 0, 0, 0, 0, 0, 0, 0, 0])).2]) (ns' := [33]) (by simp) (by simp; rfl)
  refine s_loadIdx (j := 1) hE rfl (by omega) (hM.get 0 rfl) (show _ = some (bV 7) from rfl) one5 (by intro X h; cases h) rfl ?_; clear hE a; intro a hE
  refine g_yes hE rfl rfl ?_
  refine s_bin hE rfl rfl bin_eql rfl ?_; clear hE a; intro a hE
  refine s_pickt hE rfl rfl rfl ?_; clear hE a; intro a hE
  refine s_assign hE rfl rfl ?_; clear hE a; intro a hE
  refine q_nil ?_
  replace hE : Env a 46 [(0, _), (1, _), (5, _), (13, _)] := hE.sel [0, 1, 5, 13] rfl
  refine hK7 _ _ ?_
  refine wp_ret ?_
  refine f_ret1 hE rfl rfl ?_
  exact ⟨rfl, hM.nil⟩
theorem is_nil (w : World) : Calls Try.prog 18 #[.pointer none] w fun e w' => e = .returned (.bool false) ∧ Mem w [] w' [] := by
  have hM := Mem.start0 w
  refine f_enter 13 Try.func18 rfl rfl rfl ?_
  intro a hE
  replace hE : Env a 13 [(0, _)] := hE
  refine wp_seq_k (fun K1 hK1 => ?_)
  refine wp_plain [true] rfl rfl ?_
  refine s_assign hE rfl rfl ?_; clear hE a; intro a hE
  refine q_nil ?_
  refine hK1 _ _ ?_
  refine wp_seq_k (fun K2 hK2 => ?_)
  refine wp_plain [true, true, true, true, true, true, true, true, true, true, true] rfl rfl ?_
  refine s_move hE rfl rfl ?_; clear hE a; intro a hE
  refine s_bin hE rfl rfl (bins_nil_nil Try.underlying28).2 rfl ?_; clear hE a; intro a hE
  refine s_move hE rfl rfl ?_; clear hE a; intro a hE
  refine g_no (b := false) hE rfl rfl rfl ?_; clear hE a; intro a hE
  refine g_no (b := false) hE rfl rfl rfl ?_; clear hE a; intro a hE
  refine g_no (b := false) hE rfl rfl rfl ?_; clear hE a; intro a hE
  refine g_no (b := false) hE rfl rfl rfl ?_; clear hE a; intro a hE
  refine g_no (b := false) hE rfl rfl rfl ?_; clear hE a; intro a hE
  refine g_no (b := false) hE rfl rfl rfl ?_; clear hE a; intro a hE
  refine s_pickf hE rfl rfl rfl ?_; clear hE a; intro a hE
  refine s_assign hE rfl rfl ?_; clear hE a; intro a hE
  refine q_nil ?_
  replace hE : Env a 13 [(2, _)] := hE.sel [2] rfl
  refine hK2 _ _ ?_
  refine wp_ret ?_
  refine f_ret1 hE rfl rfl ?_
  exact ⟨by first | rfl | simp, hM.nil⟩
theorem is_emp (w : World) (p : Nat) (hB : (blk p [[.slice none 0 0]] [1] 56).holds w) : Calls Try.prog 18 #[.pointer (some ⟨p, 0, none⟩)] w fun e w' => e = .returned (.bool false) ∧ Mem w [] w' [] := by
  have hM := Mem.startR2 (e := blkR p [[.slice none 0 0]] [1] 56) (f := rd (.slice none 0 0) 33 0 0 []) hB ⟨rfl, .inl ⟨none, rfl, rfl, rfl⟩⟩ rfl rfl
  refine f_enter 13 Try.func18 rfl rfl rfl ?_
  intro a hE
  replace hE : Env a 13 [(0, _)] := hE
  refine wp_seq_k (fun K1 hK1 => ?_)
  refine wp_plain [true] rfl rfl ?_
  refine s_assign hE rfl rfl ?_; clear hE a; intro a hE
  refine q_nil ?_
  refine hK1 _ _ ?_
  refine wp_seq_k (fun K2 hK2 => ?_)
  refine wp_plain [true, true, true, true, true, true, true, true, true, true, true] rfl rfl ?_
  refine s_move hE rfl rfl ?_; clear hE a; intro a hE
  refine s_bin hE rfl rfl (bins_ptr_nil Try.underlying28).2 rfl ?_; clear hE a; intro a hE
  refine s_move hE rfl rfl ?_; clear hE a; intro a hE
  refine g_yes hE rfl rfl ?_
  refine s_move hE rfl rfl ?_; clear hE a; intro a hE
  refine g_yes hE rfl rfl ?_
  refine s_nilCheck hE rfl rfl ?_; clear hE a; intro a hE
  refine g_yes hE rfl rfl ?_
  refine s_fieldAddr hE rfl fo56_0 rfl ?_; clear hE a; intro a hE
  refine g_yes hE rfl rfl ?_
  refine s_load1 hE rfl (blkR_blk (hM.get 0 rfl)) rfl one37 (by intro X h; cases h) rfl ?_; clear hE a; intro a hE
  refine g_yes hE rfl rfl ?_
  refine s_len hE rfl Try.underlying37 (rd_slice (hM.get 1 rfl)) rfl ?_; clear hE a; intro a hE
  refine g_yes hE rfl rfl ?_
  refine s_bin hE rfl rfl bin_gtr rfl ?_; clear hE a; intro a hE
  refine s_pickt hE rfl rfl rfl ?_; clear hE a; intro a hE
  refine s_assign hE rfl rfl ?_; clear hE a; intro a hE
  refine q_nil ?_
  replace hE : Env a 13 [(2, _)] := hE.sel [2] rfl
  refine hK2 _ _ ?_
  refine wp_ret ?_
  refine f_ret1 hE rfl rfl ?_
  exact ⟨by first | rfl | simp, hM.nil⟩
theorem read_nil (w : World) : Calls Try.prog 10 #[.pointer none] w fun e w' => e = .returned (.tuple #[.agg (cl cl0).toArray, .int .i64 1]) ∧ Mem w [] w' [] := by
  have hM := Mem.start0 w
  refine f_enter 20 Try.func10 rfl rfl rfl ?_
  intro a hE
  replace hE : Env a 20 [(0, _)] := hE
  refine wp_seq_k (fun K1 hK1 => ?_)
  refine wp_plain [false, true] rfl rfl ?_
  refine s_alloc [1, 32] hE hM zero26 rfl rfl ?_; clear hE a; intro a b2 w1 hE hM'
  clear hM; have hM := hM'; clear hM'
  refine s_assign hE rfl rfl ?_; clear hE a; intro a hE
  refine q_nil ?_
  refine hK1 _ _ ?_
  refine wp_seq_k (fun K2 hK2 => ?_)
  refine wp_seq_k (fun K3 hK3 => ?_)
  refine wp_plain [true, false, true] rfl rfl ?_
  refine s_move hE rfl rfl ?_; clear hE a; intro a hE
  refine s_call hE rfl Try.call18 (is_nil _) rfl ?_
  rintro e w2 ⟨rfl, hN⟩
  refine ⟨_, rfl, trivial, ?_⟩; clear hE a; intro a hE
  replace hM : Mem _ _ w2 [_] := hM.call0 hN trivial; clear hN
  refine s_not hE rfl rfl ?_; clear hE a; intro a hE
  refine q_nil ?_
  replace hE : Env a 20 [(0, _), (2, _), (3, _), (6, _)] := hE.sel [0, 2, 3, 6] rfl
  refine hK3 _ _ ?_
  replace hE := hE.cast 6 rfl (show _ = Value.bool true from (congrArg Value.bool (by first | rfl | decide)))
  refine wp_cond_true (hE.eval rfl) ?_
  refine wp_seq_k (fun K4 hK4 => ?_)
  refine wp_plain [true, false, true] rfl rfl ?_
  refine s_build (r := .agg (cl cl0).toArray) _ hE rfl (fun w => by kernel_rfl) rfl ?_; clear hE a; intro a hE
  refine s_storeSegs 0 2 (vss := [[.int .u64 0], bv (List.replicate 32 0)]) hE rfl rfl hM rfl sz26 (by simp) (by decide) rfl (one_fl ⟨one1 rfl, bv_one _, trivial⟩) rfl (by intro X h; cases h) ?_; intro w3 hM'; clear hM; have hM := hM'; clear hM'
  simp only [List.take_zero, List.take_succ_cons, List.drop_zero, List.drop_succ_cons, List.take_nil, List.drop_nil, List.nil_append, List.append_nil, List.cons_append] at hM
  refine s_assign hE rfl rfl ?_; clear hE a; intro a hE
  refine q_nil ?_
  replace hE : Env a 20 [(0, _), (2, _), (3, _), (6, _)] := hE.sel [0, 2, 3, 6] rfl
  refine hK4 _ _ ?_
  refine wp_ret ?_
  refine q_then_r ?_
  refine f_ret2 hE rfl (res_cellN rfl (hM.get 0 rfl) row26 rfl) rfl ?_
  exact ⟨by first | rfl | simp, hM.nil⟩
theorem read_emp (w : World) (p : Nat) (hB : (blk p [[.slice none 0 0]] [1] 56).holds w) : Calls Try.prog 10 #[.pointer (some ⟨p, 0, none⟩)] w fun e w' => e = .returned (.tuple #[.agg (cl cl0).toArray, .int .i64 1]) ∧ Mem w [] w' [] := by
  have hM := Mem.startR2 (e := blkR p [[.slice none 0 0]] [1] 56) (f := rd (.slice none 0 0) 33 0 0 []) hB ⟨rfl, .inl ⟨none, rfl, rfl, rfl⟩⟩ rfl rfl
  refine f_enter 20 Try.func10 rfl rfl rfl ?_
  intro a hE
  replace hE : Env a 20 [(0, _)] := hE
  refine wp_seq_k (fun K1 hK1 => ?_)
  refine wp_plain [false, true] rfl rfl ?_
  refine s_alloc [1, 32] hE hM zero26 rfl rfl ?_; clear hE a; intro a b2 w1 hE hM'
  clear hM; have hM := hM'; clear hM'
  refine s_assign hE rfl rfl ?_; clear hE a; intro a hE
  refine q_nil ?_
  refine hK1 _ _ ?_
  refine wp_seq_k (fun K2 hK2 => ?_)
  refine wp_seq_k (fun K3 hK3 => ?_)
  refine wp_plain [true, false, true] rfl rfl ?_
  refine s_move hE rfl rfl ?_; clear hE a; intro a hE
  refine s_call hE rfl Try.call18 (is_emp _ p (blkR_blk (hM.get 1 rfl))) rfl ?_
  rintro e w2 ⟨rfl, hN⟩
  refine ⟨_, rfl, trivial, ?_⟩; clear hE a; intro a hE
  replace hM : Mem _ _ w2 [_, _, _] := hM.call0 hN trivial; clear hN
  refine s_not hE rfl rfl ?_; clear hE a; intro a hE
  refine q_nil ?_
  replace hE : Env a 20 [(0, _), (2, _), (3, _), (6, _)] := hE.sel [0, 2, 3, 6] rfl
  refine hK3 _ _ ?_
  replace hE := hE.cast 6 rfl (show _ = Value.bool true from (congrArg Value.bool (by first | rfl | decide)))
  refine wp_cond_true (hE.eval rfl) ?_
  refine wp_seq_k (fun K4 hK4 => ?_)
  refine wp_plain [true, false, true] rfl rfl ?_
  refine s_build (r := .agg (cl cl0).toArray) _ hE rfl (fun w => by kernel_rfl) rfl ?_; clear hE a; intro a hE
  refine s_storeSegs 0 2 (vss := [[.int .u64 0], bv (List.replicate 32 0)]) hE rfl rfl hM rfl sz26 (by simp) (by decide) rfl (one_fl ⟨one1 rfl, bv_one _, trivial⟩) rfl (by intro X h; cases h) ?_; intro w3 hM'; clear hM; have hM := hM'; clear hM'
  simp only [List.take_zero, List.take_succ_cons, List.drop_zero, List.drop_succ_cons, List.take_nil, List.drop_nil, List.nil_append, List.append_nil, List.cons_append] at hM
  refine s_assign hE rfl rfl ?_; clear hE a; intro a hE
  refine q_nil ?_
  replace hE : Env a 20 [(0, _), (2, _), (3, _), (6, _)] := hE.sel [0, 2, 3, 6] rfl
  refine hK4 _ _ ?_
  refine wp_ret ?_
  refine q_then_r ?_
  refine f_ret2 hE rfl (res_cellN rfl (hM.get 0 rfl) row26 rfl) rfl ?_
  exact ⟨by first | rfl | simp, hM.nil⟩
theorem hist_nil (w : World) : Calls Try.prog 11 #[.pointer none] w fun e w' => e = .returned (.slice none 0 0) ∧ Mem w [] w' [] := by
  have hM := Mem.start0 w
  refine f_enter 11 Try.func11 rfl rfl rfl ?_
  intro a hE
  replace hE : Env a 11 [(0, _)] := hE
  refine wp_seq_k (fun K1 hK1 => ?_)
  refine wp_plain [true] rfl rfl ?_
  refine s_assign hE rfl rfl ?_; clear hE a; intro a hE
  refine q_nil ?_
  refine hK1 _ _ ?_
  refine wp_seq_k (fun K2 hK2 => ?_)
  refine wp_seq_k (fun K3 hK3 => ?_)
  refine wp_plain [true, false, true] rfl rfl ?_
  refine s_move hE rfl rfl ?_; clear hE a; intro a hE
  refine s_call hE rfl Try.call18 (is_nil _) rfl ?_
  rintro e w1 ⟨rfl, hN⟩
  refine ⟨_, rfl, trivial, ?_⟩; clear hE a; intro a hE
  replace hM : Mem _ _ w1 [] := hM.call0 hN trivial; clear hN
  refine s_not hE rfl rfl ?_; clear hE a; intro a hE
  refine q_nil ?_
  replace hE : Env a 11 [(0, _), (2, _), (5, _)] := hE.sel [0, 2, 5] rfl
  refine hK3 _ _ ?_
  replace hE := hE.cast 5 rfl (show _ = Value.bool true from (congrArg Value.bool (by first | rfl | decide)))
  refine wp_cond_true (hE.eval rfl) ?_
  refine wp_seq_k (fun K4 hK4 => ?_)
  refine wp_plain [true] rfl rfl ?_
  refine s_assign hE rfl rfl ?_; clear hE a; intro a hE
  refine q_nil ?_
  refine hK4 _ _ ?_
  refine wp_ret ?_
  refine q_then_r ?_
  refine f_ret1 hE rfl rfl ?_
  exact ⟨by first | rfl | simp, hM.nil⟩
theorem copy_emp (w : World) (p : Nat) (hB : (blk p [[.slice none 0 0]] [1] 56).holds w) : Calls Try.prog 13 #[.pointer (some ⟨p, 0, none⟩)] w fun e w' => e = .returned (.pointer none) ∧ Mem w [] w' [] := by
  have hM := Mem.startR2 (e := blkR p [[.slice none 0 0]] [1] 56) (f := rd (.slice none 0 0) 33 0 0 []) hB ⟨rfl, .inl ⟨none, rfl, rfl, rfl⟩⟩ rfl rfl
  refine f_enter 21 Try.func13 rfl rfl rfl ?_
  intro a hE
  replace hE : Env a 21 [(0, _)] := hE
  refine wp_seq_k (fun K1 hK1 => ?_)
  refine wp_plain [true] rfl rfl ?_
  refine s_assign hE rfl rfl ?_; clear hE a; intro a hE
  refine q_nil ?_
  refine hK1 _ _ ?_
  refine wp_seq_k (fun K2 hK2 => ?_)
  refine wp_seq_k (fun K3 hK3 => ?_)
  refine wp_plain [true, false, true] rfl rfl ?_
  refine s_move hE rfl rfl ?_; clear hE a; intro a hE
  refine s_call hE rfl Try.call18 (is_emp _ p (blkR_blk (hM.get 0 rfl))) rfl ?_
  rintro e w1 ⟨rfl, hN⟩
  refine ⟨_, rfl, trivial, ?_⟩; clear hE a; intro a hE
  replace hM : Mem _ _ w1 [_, _] := hM.call0 hN trivial; clear hN
  refine s_not hE rfl rfl ?_; clear hE a; intro a hE
  refine q_nil ?_
  replace hE : Env a 21 [(0, _), (2, _), (6, _)] := hE.sel [0, 2, 6] rfl
  refine hK3 _ _ ?_
  replace hE := hE.cast 6 rfl (show _ = Value.bool true from (congrArg Value.bool (by first | rfl | decide)))
  refine wp_cond_true (hE.eval rfl) ?_
  refine wp_seq_k (fun K4 hK4 => ?_)
  refine wp_plain [true] rfl rfl ?_
  refine s_assign hE rfl rfl ?_; clear hE a; intro a hE
  refine q_nil ?_
  refine hK4 _ _ ?_
  refine wp_ret ?_
  refine q_then_r ?_
  refine f_ret1 hE rfl rfl ?_
  exact ⟨by first | rfl | simp, hM.nil⟩
def LZ : List UInt8 := List.replicate 32 0
theorem adv_emp (w : World) (p : Nat) (lab : List UInt8) (hlab : lab.length = 32) (hB : (blk p [[.slice none 0 0]] [1] 56).holds w) : Calls Try.prog 9 #[.pointer (some ⟨p, 0, none⟩), .agg (bv lab).toArray] w fun e w' => e = .returned (.tuple #[.int .u64 0, .int .i64 1]) ∧ Mem w [] w' [] := by
  have hM := Mem.startR2 (e := blkR p [[.slice none 0 0]] [1] 56) (f := rd (.slice none 0 0) 33 0 0 []) hB ⟨rfl, .inl ⟨none, rfl, rfl, rfl⟩⟩ rfl rfl
  refine f_enter 37 Try.func9 rfl rfl rfl ?_
  intro a hE
  replace hE : Env a 37 [(0, _), (1, _)] := hE
  refine wp_seq_k (fun K1 hK1 => ?_)
  refine wp_plain [false, true, true] rfl rfl ?_
  refine s_box (ss := [bv lab]) [32] hE hM rfl (by simp [Value.cells]) (by simp [hlab]) rfl ?_; clear hE a; intro a b3 w1 hE hM'
  clear hM; have hM := hM'; clear hM'
  refine s_assign hE rfl rfl ?_; clear hE a; intro a hE
  refine s_assign hE rfl rfl ?_; clear hE a; intro a hE
  refine q_nil ?_
  replace hE : Env a 37 [(0, _), (3, _), (4, _), (5, _)] := hE.sel [0, 3, 4, 5] rfl
  refine hK1 _ _ ?_
  refine wp_seq_k (fun K2 hK2 => ?_)
  refine wp_plain [true, false, true, true, true, false, false, true] rfl rfl ?_
  refine s_move hE rfl rfl ?_; clear hE a; intro a hE
  refine s_call hE rfl Try.call10 (read_emp _ p (blkR_blk (hM.get 1 rfl))) rfl ?_
  rintro e w2 ⟨rfl, hN⟩
  refine ⟨_, rfl, trivial, ?_⟩; clear hE a; intro a hE
  replace hM : Mem _ _ w2 [_, _, _] := hM.call0 hN trivial; clear hN
  refine s_move hE rfl rfl ?_; clear hE a; intro a hE
  refine s_extract hE rfl rfl rfl ?_; clear hE a; intro a hE
  refine s_extract hE rfl rfl rfl ?_; clear hE a; intro a hE
  refine s_alloc [1, 32] hE hM zero26 rfl rfl ?_; clear hE a; intro a b6 w3 hE hM'
  clear hM; have hM := hM'; clear hM'
  refine s_storeSegs 0 2 (vss := [[.int .u64 0], bv (List.replicate 32 0)]) hE rfl rfl hM rfl sz26 (by simp) (by decide) rfl (one_fl ⟨one1 rfl, bv_one _, trivial⟩) rfl (by intro X h; cases h) ?_; intro w4 hM'; clear hM; have hM := hM'; clear hM'
  simp only [List.take_zero, List.take_succ_cons, List.drop_zero, List.drop_succ_cons, List.take_nil, List.drop_nil, List.nil_append, List.append_nil, List.cons_append] at hM
  refine s_assign hE rfl rfl ?_; clear hE a; intro a hE
  refine q_nil ?_
  replace hE : Env a 37 [(0, _), (3, _), (4, _), (5, _), (6, _), (7, _)] := hE.sel [0, 3, 4, 5, 6, 7] rfl
  refine hK2 _ _ ?_
  refine wp_seq_k (fun K3 hK3 => ?_)
  refine wp_seq_k (fun K4 hK4 => ?_)
  refine wp_plain [true, true] rfl rfl ?_
  refine s_move hE rfl rfl ?_; clear hE a; intro a hE
  refine s_bin hE rfl rfl bin_neq rfl ?_; clear hE a; intro a hE
  refine q_nil ?_
  replace hE : Env a 37 [(0, _), (3, _), (4, _), (5, _), (6, _), (7, _), (15, _)] := hE.sel [0, 3, 4, 5, 6, 7, 15] rfl
  refine hK4 _ _ ?_
  replace hE := hE.cast 15 rfl (show _ = Value.bool true from (congrArg Value.bool (by first | rfl | decide)))
  refine wp_cond_true (hE.eval rfl) ?_
  refine wp_seq_k (fun K5 hK5 => ?_)
  refine wp_plain [true, true, true] rfl rfl ?_
  refine s_move hE rfl rfl ?_; clear hE a; intro a hE
  refine s_assign hE rfl rfl ?_; clear hE a; intro a hE
  refine s_assign hE rfl rfl ?_; clear hE a; intro a hE
  refine q_nil ?_
  replace hE : Env a 37 [(0, _), (3, _), (4, _), (5, _), (6, _), (7, _), (15, _)] := hE.sel [0, 3, 4, 5, 6, 7, 15] rfl
  refine hK5 _ _ ?_
  refine wp_ret ?_
  refine q_then_r ?_
  refine f_ret2 hE rfl rfl rfl ?_
  exact ⟨by first | rfl | simp, hM.nil⟩
end Go.Proofs.Ytafokhpokeipkaa
