/- BytesBack of casematelaw06 returns true for whatever widths, numbers and texts; they read behind the call as before. No condition. -/
import Derived.Test.YtfdndkempgnlcaaLb
namespace Go.Proofs.Ytfdndkempgnlcaa
open Go Go.Kx
open Go.ChangeShapes Go.WideShapes Go.ChangeAt Go.RowKit
theorem slt63 : slT Try.prog 63 = some 3 := by kernel_rfl
theorem row44 : RowT Try.prog 44 3 := RowT.of Try.underlying44 rfl (by kernel_rfl)
theorem zero44 : Zero Try.prog 44 [[.int .i64 0], [.int .u64 0], [.string .empty]] := ⟨.agg ([[.int .i64 0], [.int .u64 0], [.string .empty]] : List (List Value)).flatten.toArray, by kernel_rfl, by kernel_rfl⟩
theorem sz44 : (Try.prog.info? 44).map (·.size) = some 3 := by kernel_rfl
theorem fo44_2 : fieldOff Try.prog 44 2 = some 2 := by kernel_rfl
theorem one9 : OneT Try.prog 9 := OneT.of Try.underlying9 rfl (by kernel_rfl)
theorem sz9 : (Try.prog.info? 9).map (·.size) = some 1 := by kernel_rfl
theorem fo44_0 : fieldOff Try.prog 44 0 = some 0 := by kernel_rfl
theorem one3 : OneT Try.prog 3 := OneT.of Try.underlying3 rfl (by kernel_rfl)
theorem fo44_1 : fieldOff Try.prog 44 1 = some 1 := by kernel_rfl
theorem one42 : OneT Try.prog 42 := OneT.of Try.underlying42 rfl (by kernel_rfl)
theorem sl63 : SlT Try.prog 63 44 3 32 := ⟨Try.underlying63, by kernel_rfl, by kernel_rfl, .agg ([[.int .i64 0], [.int .u64 0], [.string .empty]] : List (List Value)).flatten.toArray, by kernel_rfl, rfl⟩
theorem bytesBack_c (ls : List Trio) (v : Value) (c0 : Nat) (w : World) (hr : (rd v 3 ls.length c0 (its ls)).holds w) (hms : ∀ k, k ∈ ls → k.2.1 < 2 ^ 64) (hll : ls.length ≤ 140737488355328) : Calls Try.prog 8 #[v] w fun e w' => e = .returned (.bool true) ∧ Mem w [] w' [] := by
  have hM := Mem.startR1 hr rfl
  refine f_enter 105 Try.func8 rfl rfl rfl ?_
  intro a hE
  replace hE : Env a 105 [(0, _)] := hE
  refine wp_seq_k (fun K1 hK1 => ?_)
  refine wp_plain [true] rfl rfl ?_
  refine s_assign hE rfl rfl ?_; clear hE a; intro a hE
  refine q_nil ?_
  refine hK1 _ _ ?_
  refine wp_seq_k (fun K2 hK2 => ?_)
  refine wp_plain [true] rfl rfl ?_
  refine s_assign hE rfl rfl ?_; clear hE a; intro a hE
  replace hM := hM.addNil 1
  refine q_nil ?_
  refine hK2 _ _ ?_
  refine wp_seq_k (fun K3 hK3 => ?_)
  refine wp_plain [true] rfl rfl ?_
  refine s_assign hE rfl rfl ?_; clear hE a; intro a hE
  replace hM := hM.addNil 3
  refine q_nil ?_
  refine hK3 _ _ ?_
  refine wp_seq_k (fun K4 hK4 => ?_)
  refine wp_seq_k (fun K5 hK5 => ?_)
  refine wp_plain [true] rfl rfl ?_
  refine s_assign hE rfl rfl ?_; clear hE a; intro a hE
  refine q_nil ?_
  refine hK5 _ _ ?_
  refine wp_block ?_
  replace hM : Mem _ _ w [_, _, _] := hM.pick [1, 0, 2] rfl
  refine c_loop (fun (i : Nat) a w' => i ≤ ls.length ∧ i ≤ 40 ∧ ∃ (ks : List Trio) (vb vk : Value), ks.length ≤ i ∧ (∀ k, k ∈ ks → FitsT k) ∧ Env a 105 [(0, v), (3, vb), (4, vk), (5, .int .i64 i)] ∧ Mem w [] w' [own vb 1 (enc ks).length (bv (enc ks)), own vk 3 ks.length (its ks), rd v 3 ls.length c0 (its ls)]) (fun i => ls.length - i) 0 ⟨Nat.zero_le _, by omega, [], _, _, Nat.le_refl _, (fun k hk => (by cases hk)), hE.sel [0, 3, 4, 5] rfl, hM.pick [0, 1, 2] rfl⟩ ?_
  clear hE hM a; rintro i a w9 ⟨hi, hi40, ks, vb, vk, hkl, hgd, hE, hM⟩
  have hel := enc_len hgd
  refine wp_seq_k (fun K6 hK6 => ?_)
  refine wp_seq_k (fun K7 hK7 => ?_)
  refine wp_plain [true, true, true, true, true, true, true, true] rfl rfl ?_
  refine s_move hE rfl rfl ?_; clear hE a; intro a hE
  refine s_move hE rfl rfl ?_; clear hE a; intro a hE
  refine s_len hE rfl Try.underlying63 (rd_slice (hM.get 2 rfl)) rfl ?_; clear hE a; intro a hE
  refine s_bin hE rfl rfl bin_lss rfl ?_; clear hE a; intro a hE
  refine s_move hE rfl rfl ?_; clear hE a; intro a hE
  refine hE.split 17 rfl (fun hb17 hE' => ?_) (fun hb17 hE' => ?_)
  · replace hE := hE'; clear hE'
    replace hb17 := of_decide_eq_true hb17
    refine g_yes hE rfl rfl ?_
    refine s_move hE rfl rfl ?_; clear hE a; intro a hE
    refine g_yes hE rfl rfl ?_
    refine s_bin hE rfl rfl bin_lss rfl ?_; clear hE a; intro a hE
    refine s_pickt hE rfl rfl rfl ?_; clear hE a; intro a hE
    refine q_nil ?_
    replace hE : Env a 105 [(0, _), (3, _), (4, _), (5, _), (20, _)] := hE.sel [0, 3, 4, 5, 20] rfl
    refine hK7 _ _ ?_
    refine hE.split 20 rfl (fun hb20 hE' => ?_) (fun hb20 hE' => ?_)
    · replace hE := hE'; clear hE'
      replace hb20 := of_decide_eq_true hb20
      refine wp_cond_true (hE.eval rfl) ?_
      refine wp_skip ?_
      refine hK6 _ _ ?_
      refine wp_seq_k (fun K8 hK8 => ?_)
      refine wp_block ?_
      refine wp_seq_k (fun K9 hK9 => ?_)
      refine wp_plain [true, true, true, true, false, false] rfl rfl ?_
      refine s_move hE rfl rfl ?_; clear hE a; intro a hE
      refine s_move hE rfl rfl ?_; clear hE a; intro a hE
      refine s_indexRd (j := i) hE rfl (hM.get 2 rfl) rfl slt63 (by first | rfl | omega) (by first | omega | decide) rfl ?_; clear hE a; intro a p25 hE hc25 hp25
      rw [its_elem (by omega)] at hc25
      have hmk := hms _ (get_mem (i := i) (by omega))
      obtain ⟨x, m, s0, hk⟩ : ∃ x m s0, ls.getD i it0 = (x, m, s0) := ⟨_, _, _, rfl⟩
      rw [hk] at hc25 hmk
      refine s_loadAtN hE rfl hc25 row44 (by intro X h; cases h) rfl ?_; clear hE a; intro a hE
      refine s_alloc [1, 1, 1] hE hM zero44 rfl rfl ?_; clear hE a; intro a bx w10 hE hM'
      clear hM; have hM := hM'; clear hM'
      replace hM := hM.resplit (ss' := [[.int .i64 0, .int .u64 0, .string .empty]]) (ns' := [3]) rfl rfl
      refine s_storeSeg 0 (vs := it (x, m, s0)) hE rfl rfl hM rfl sz44 rfl (it_one _) rfl rfl rfl (by intro X h; cases h) ?_; intro w11 hM'; clear hM; have hM := hM'; clear hM'
      replace hM := hM.resplit (ss' := [[.int .i64 x], [.int .u64 (m : Int)], [.string s0]]) (ns' := [1, 1, 1]) rfl rfl
      refine q_nil ?_
      replace hE : Env a 105 [(0, _), (3, _), (4, _), (5, _), (6, _), (20, _)] := hE.sel [0, 3, 4, 5, 6, 20] rfl
      refine hK9 _ _ ?_
      refine wp_seq_k (fun K10 hK10 => ?_)
      refine wp_plain [true, true, true, true, true, true, true, true, false] rfl rfl ?_
      refine s_fieldAddr hE rfl fo44_2 rfl ?_; clear hE a; intro a hE
      refine s_load1 hE rfl (hM.get 0 rfl) rfl one9 (by intro X h; cases h) rfl ?_; clear hE a; intro a hE
      refine s_fieldAddr hE rfl fo44_2 rfl ?_; clear hE a; intro a hE
      refine s_load1 hE rfl (hM.get 0 rfl) rfl one9 (by intro X h; cases h) rfl ?_; clear hE a; intro a hE
      refine s_len_str hE rfl Try.underlying9 rfl ?_; clear hE a; intro a hE
      refine s_min hE rfl rfl rfl ?_; clear hE a; intro a hE
      replace hE := hE.cast 32 rfl (show _ = Value.int .i64 ((min s0.size 300 : Nat) : Int) from congrArg _ (by split <;> omega))
      refine s_sliceStr (l := 0) (h := min s0.size 300) hE rfl Try.underlying9 rfl ⟨_, rfl⟩ (by omega) (by omega) rfl ?_; clear hE a; intro a hE
      have hS : (s0.extract 0 (min s0.size 300)).size ≤ 300 := by simp; omega
      generalize s0.extract 0 (min s0.size 300) = S at hE hS
      refine s_fieldAddr hE rfl fo44_2 rfl ?_; clear hE a; intro a hE
      refine s_store1 2 hE rfl rfl hM rfl rfl sz9 rfl rfl (by intro X h; cases h) ?_; intro w12 hM'; clear hM; have hM := hM'; clear hM'
      refine q_nil ?_
      replace hE : Env a 105 [(0, _), (3, _), (4, _), (5, _), (6, _), (20, _)] := hE.sel [0, 3, 4, 5, 6, 20] rfl
      refine hK10 _ _ ?_
      refine wp_seq_k (fun K11 hK11 => ?_)
      refine wp_plain [true, true, true, true, true, false, true, true, true, true, true] rfl rfl ?_
      refine s_move hE rfl rfl ?_; clear hE a; intro a hE
      refine s_fieldAddr hE rfl fo44_0 rfl ?_; clear hE a; intro a hE
      refine s_load1 hE rfl (hM.get 0 rfl) rfl one3 (by intro X h; cases h) rfl ?_; clear hE a; intro a hE
      refine s_fieldAddr hE rfl fo44_1 rfl ?_; clear hE a; intro a hE
      refine s_load1 hE rfl (hM.get 0 rfl) rfl one42 (by intro X h; cases h) rfl ?_; clear hE a; intro a hE
      obtain ⟨csn, hsn⟩ := own_rd (hM.get 1 rfl)
      refine s_call hE rfl Try.call20 (num_c (enc ks) _ _ x m _ hsn (by omega)) rfl ?_
      rintro e w13 ⟨vn, rfl, hN⟩
      refine ⟨_, rfl, trivial, ?_⟩; clear hE a; intro a hE
      replace hM : Mem _ _ w13 [_, _, _, _, _] := hM.call0 hN ⟨rfl, trivial⟩; clear hN
      refine s_move hE rfl rfl ?_; clear hE a; intro a hE
      refine s_extract hE rfl rfl rfl ?_; clear hE a; intro a hE
      refine s_extract hE rfl rfl rfl ?_; clear hE a; intro a hE
      refine s_assign hE rfl rfl ?_; clear hE a; intro a hE
      refine s_assign hE rfl rfl ?_; clear hE a; intro a hE
      refine q_nil ?_
      replace hE : Env a 105 [(0, _), (3, _), (4, _), (5, _), (6, _), (7, _), (8, _), (20, _)] := hE.sel [0, 3, 4, 5, 6, 7, 8, 20] rfl
      refine hK11 _ _ ?_
      refine wp_seq_k (fun K12 hK12 => ?_)
      refine wp_seq_k (fun K13 hK13 => ?_)
      refine wp_plain [true, true] rfl rfl ?_
      refine s_move hE rfl rfl ?_; clear hE a; intro a hE
      refine s_bin hE rfl rfl bin_neq rfl ?_; clear hE a; intro a hE
      refine q_nil ?_
      replace hE : Env a 105 [(0, _), (3, _), (4, _), (5, _), (6, _), (7, _), (8, _), (20, _), (45, _)] := hE.sel [0, 3, 4, 5, 6, 7, 8, 20, 45] rfl
      refine hK13 _ _ ?_
      refine hE.split 45 rfl (fun hb45 hE' => ?_) (fun hb45 hE' => ?_)
      · replace hE := hE'; clear hE'
        have hp := (pNum_code (enc ks) x m).resolve_left (fun h => by rw [h.2] at hb45; simp at hb45)
        rw [hp] at hE hM
        refine wp_cond_true (hE.eval rfl) ?_
        refine wp_seq_k (fun K14 hK14 => ?_)
        refine wp_seq_k (fun K15 hK15 => ?_)
        refine wp_plain [true, true, true] rfl rfl ?_
        refine s_move hE rfl rfl ?_; clear hE a; intro a hE
        refine s_len hE rfl Try.underlying23 (own_slice (hM.get 0 rfl)) rfl ?_; clear hE a; intro a hE
        refine s_bin hE rfl rfl bin_neq rfl ?_; clear hE a; intro a hE
        refine q_nil ?_
        replace hE : Env a 105 [(0, _), (3, _), (4, _), (5, _), (6, _), (7, _), (8, _), (20, _), (45, _), (48, _)] := hE.sel [0, 3, 4, 5, 6, 7, 8, 20, 45, 48] rfl
        refine hK15 _ _ ?_
        replace hE := hE.cast 48 rfl (show _ = Value.bool false from (congrArg Value.bool (by first | rfl | (simp; done) | (simp [str]; done))))
        refine wp_cond_false (hE.eval rfl) ?_
        refine wp_skip ?_
        refine hK14 _ _ ?_
        refine wp_exit ?_
        refine q_then_e ?_
        refine q_block_x ?_
        refine hK8 _ _ ?_
        refine wp_plain [true, true, true] rfl rfl ?_
        refine s_move hE rfl rfl ?_; clear hE a; intro a hE
        refine s_bin hE rfl rfl (bin_add (wrap_i64 (by omega) (by omega))) rfl ?_; clear hE a; intro a hE
        refine s_assign hE rfl rfl ?_; clear hE a; intro a hE
        refine q_nil ?_
        replace hE : Env a 105 [(0, _), (3, _), (4, _), (5, _), (6, _), (7, _), (8, _), (20, _), (45, _), (48, _)] := hE.sel [0, 3, 4, 5, 6, 7, 8, 20, 45, 48] rfl
        replace hE := hE.cast 5 rfl (show _ = Value.int .i64 ((i + 1 : Nat) : Int) from congrArg _ (by omega))
        replace hM : Mem _ _ w13 [_, _, _, _, _] := hM.pick [2, 3, 4, 0, 1] rfl
        exact ⟨i + 1, ⟨by omega, by omega, ks, _, _, by omega, hgd, hE.sel [0, 3, 4, 5] rfl, hM.pick [0, 1, 2] rfl⟩, by omega⟩
      · replace hE := hE'; clear hE'
        obtain ⟨hf, hp⟩ := (pNum_code (enc ks) x m).resolve_right (fun h => by rw [h] at hb45; simp at hb45)
        obtain ⟨kx, hkx, hk8, _, _⟩ := fits_width hf
        have hxl : x.toNat ≤ 8 := by omega
        rw [hp] at hE hM
        refine wp_cond_false (hE.eval rfl) ?_
        refine wp_skip ?_
        refine hK12 _ _ ?_
        refine wp_seq_k (fun K14 hK14 => ?_)
        refine wp_plain [true, true, true, false, true, true, true, true, true] rfl rfl ?_
        refine s_move hE rfl rfl ?_; clear hE a; intro a hE
        refine s_fieldAddr hE rfl fo44_2 rfl ?_; clear hE a; intro a hE
        refine s_load1 hE rfl (hM.get 1 rfl) rfl one9 (by intro X h; cases h) rfl ?_; clear hE a; intro a hE
        obtain ⟨cst, hst⟩ := own_rd (hM.get 0 rfl)
        refine s_call hE rfl Try.call22 ((by have h := text_c (enc ks ++ laid x.toNat m) _ _ S _ hst (by simp; omega); rw [show pText (enc ks ++ laid x.toNat m) S.data.toList = (enc ks ++ laid x.toNat m ++ laid 2 S.size ++ S.data.toList, 0) from by unfold pText; rw [if_neg (by show ¬ 65535 < S.size; omega)]; rfl] at h; exact h)) rfl ?_
        rintro e w14 ⟨vt, rfl, hN⟩
        refine ⟨_, rfl, trivial, ?_⟩; clear hE a; intro a hE
        replace hM : Mem _ _ w14 [_, _, _, _, _, _] := hM.call0 hN ⟨rfl, trivial⟩; clear hN
        refine s_move hE rfl rfl ?_; clear hE a; intro a hE
        refine s_extract hE rfl rfl rfl ?_; clear hE a; intro a hE
        refine s_extract hE rfl rfl rfl ?_; clear hE a; intro a hE
        refine s_assign hE rfl rfl ?_; clear hE a; intro a hE
        refine s_assign hE rfl rfl ?_; clear hE a; intro a hE
        refine q_nil ?_
        replace hE : Env a 105 [(0, _), (3, _), (4, _), (5, _), (6, _), (7, _), (8, _), (20, _), (45, _)] := hE.sel [0, 3, 4, 5, 6, 7, 8, 20, 45] rfl
        refine hK14 _ _ ?_
        refine wp_seq_k (fun K15 hK15 => ?_)
        refine wp_seq_k (fun K16 hK16 => ?_)
        refine wp_plain [true, true] rfl rfl ?_
        refine s_move hE rfl rfl ?_; clear hE a; intro a hE
        refine s_bin hE rfl rfl bin_neq rfl ?_; clear hE a; intro a hE
        refine q_nil ?_
        replace hE : Env a 105 [(0, _), (3, _), (4, _), (5, _), (6, _), (7, _), (8, _), (20, _), (45, _), (57, _)] := hE.sel [0, 3, 4, 5, 6, 7, 8, 20, 45, 57] rfl
        refine hK16 _ _ ?_
        replace hE := hE.cast 57 rfl (show _ = Value.bool false from (congrArg Value.bool (by first | rfl | (simp; done) | (simp [str]; done))))
        refine wp_cond_false (hE.eval rfl) ?_
        refine wp_skip ?_
        refine hK15 _ _ ?_
        refine wp_seq_k (fun K17 hK17 => ?_)
        refine wp_plain [true, true] rfl rfl ?_
        refine s_move hE rfl rfl ?_; clear hE a; intro a hE
        refine s_assign hE rfl rfl ?_; clear hE a; intro a hE
        refine q_nil ?_
        replace hE : Env a 105 [(0, _), (3, _), (4, _), (5, _), (6, _), (7, _), (8, _), (20, _), (45, _), (57, _)] := hE.sel [0, 3, 4, 5, 6, 7, 8, 20, 45, 57] rfl
        refine hK17 _ _ ?_
        refine wp_plain [true, true, false, false, true] rfl rfl ?_
        refine s_move hE rfl rfl ?_; clear hE a; intro a hE
        refine s_loadN hE rfl (hM.get 2 rfl) row44 rfl (by intro X h; cases h) rfl ?_; clear hE a; intro a hE
        refine s_buildSlice (xs := [.tmp 60]) (it (x, m, S)) hE hM sl63 rfl rfl rfl (by intro v hv; simp at hv; subst hv; rfl) rfl rfl rfl rfl ?_; clear hE a; intro a v61 w15 hE hM'
        clear hM; have hM := hM'; clear hM'
        replace hM : Mem _ _ w15 [_, _, _, _, _, _, _] := hM.pick [5, 0, 1, 2, 3, 4, 6] rfl
        obtain ⟨cy, hy⟩ := own_rd (hM.get 1 rfl)
        refine s_append hE rfl rfl hM sl63 (Src.rd Try.underlying63 hy (it_one _)) (len47 (by omega)) (by omega) (by intro X h; cases h) rfl ?_; clear hE a hy; intro a v62 w16 hE hM'
        clear hM; have hM := hM'; clear hM'
        replace hM : Mem _ _ w16 [_, _, _, _, _, _] := hM.pick [0, 2, 3, 4, 5, 6] rfl
        refine s_assign hE rfl rfl ?_; clear hE a; intro a hE
        refine q_nil ?_
        replace hE : Env a 105 [(0, _), (3, _), (4, _), (5, _), (6, _), (7, _), (8, _), (20, _), (45, _), (57, _)] := hE.sel [0, 3, 4, 5, 6, 7, 8, 20, 45, 57] rfl
        refine q_block_n ?_
        refine hK8 _ _ ?_
        refine wp_plain [true, true, true] rfl rfl ?_
        refine s_move hE rfl rfl ?_; clear hE a; intro a hE
        refine s_bin hE rfl rfl (bin_add (wrap_i64 (by omega) (by omega))) rfl ?_; clear hE a; intro a hE
        refine s_assign hE rfl rfl ?_; clear hE a; intro a hE
        refine q_nil ?_
        replace hE : Env a 105 [(0, _), (3, _), (4, _), (5, _), (6, _), (7, _), (8, _), (20, _), (45, _), (57, _)] := hE.sel [0, 3, 4, 5, 6, 7, 8, 20, 45, 57] rfl
        replace hE := hE.cast 5 rfl (show _ = Value.int .i64 ((i + 1 : Nat) : Int) from congrArg _ (by omega))
        replace hM : Mem _ _ w16 [_, _, _, _, _, _] := hM.pick [1, 0, 5, 2, 3, 4] rfl
        refine ⟨i + 1, ⟨by omega, by omega, ks ++ [(x, m, S)], _, _, by simp; omega, fun k hk => ?_, hE.sel [0, 3, 4, 5] rfl, ?_⟩, by omega⟩
        · rcases List.mem_append.1 hk with h | h
          · exact hgd k h
          · rw [List.mem_singleton.1 h]; exact ⟨hf, hmk, hS⟩
        · have e : enc (ks ++ [(x, m, S)]) = enc ks ++ laid x.toNat m ++ laid 2 S.size ++ S.data.toList := by rw [enc_snoc, ← List.append_assoc]
          rw [List.length_append, e, ← its_snoc]
          exact hM.pick [0, 1, 2] rfl
    · replace hE := hE'; clear hE'
      replace hb20 := of_decide_eq_false hb20
      refine wp_cond_false (hE.eval rfl) ?_
      refine wp_exit ?_
      refine q_then_e ?_
      refine q_then_e ?_
      refine q_block_x ?_
      refine hK4 _ _ ?_
      refine wp_seq_k (fun K8 hK8 => ?_)
      refine wp_plain [true, false, true] rfl rfl ?_
      refine s_move hE rfl rfl ?_; clear hE a; intro a hE
      obtain ⟨cso, hso⟩ := own_rd (hM.get 0 rfl)
      refine s_call hE rfl Try.call24 (open_c (enc ks) _ _ _ hso (by omega)) rfl ?_
      rintro e w10 ⟨tb, bb, rfl, hbb, hN⟩
      refine ⟨_, rfl, trivial, ?_⟩; clear hE a; intro a hE
      replace hM : Mem _ _ w10 [_, _, _, _] := hM.callN hN (fun e he x hx => by rw [List.mem_singleton.1 he] at hx; exact hbb x hx); clear hN
      refine s_assign hE rfl rfl ?_; clear hE a; intro a hE
      refine q_nil ?_
      replace hE : Env a 105 [(0, _), (3, _), (4, _), (5, _), (9, _), (20, _)] := hE.sel [0, 3, 4, 5, 9, 20] rfl
      refine hK8 _ _ ?_
      refine wp_seq_k (fun K9 hK9 => ?_)
      refine wp_seq_k (fun K10 hK10 => ?_)
      refine wp_plain [true] rfl rfl ?_
      refine s_assign hE rfl rfl ?_; clear hE a; intro a hE
      refine q_nil ?_
      refine hK10 _ _ ?_
      refine wp_block ?_
      replace hM : Mem _ _ w10 [_, _, _, _] := hM.pick [0, 2, 1, 3] rfl
      refine c_loop (fun (j : Nat) a w' => j ≤ ks.length ∧ Env a 105 [(4, vk), (9, .pointer (some ⟨tb, 0, none⟩)), (10, .int .i64 j)] ∧ Mem w [] w' [tap tb bb (enc (ks.drop j)) false 66, own vk 3 ks.length (its ks)]) (fun j => ks.length - j) 0 ⟨Nat.zero_le _, hE.sel [4, 9, 10] rfl, hM.pick [0, 1] rfl⟩ ?_
      clear hE hM a; rintro j a w10 ⟨hj, hE, hM⟩
      refine wp_seq_k (fun K11 hK11 => ?_)
      refine wp_seq_k (fun K12 hK12 => ?_)
      refine wp_plain [true, true, true, true] rfl rfl ?_
      refine s_move hE rfl rfl ?_; clear hE a; intro a hE
      refine s_move hE rfl rfl ?_; clear hE a; intro a hE
      refine s_len hE rfl Try.underlying63 (own_slice (hM.get 1 rfl)) rfl ?_; clear hE a; intro a hE
      refine s_bin hE rfl rfl bin_lss rfl ?_; clear hE a; intro a hE
      refine q_nil ?_
      replace hE : Env a 105 [(4, _), (9, _), (10, _), (68, _)] := hE.sel [4, 9, 10, 68] rfl
      refine hK12 _ _ ?_
      refine hE.split 68 rfl (fun hb68 hE' => ?_) (fun hb68 hE' => ?_)
      · replace hE := hE'; clear hE'
        replace hb68 := of_decide_eq_true hb68
        refine wp_cond_true (hE.eval rfl) ?_
        refine wp_skip ?_
        refine hK11 _ _ ?_
        refine wp_seq_k (fun K13 hK13 => ?_)
        refine wp_block ?_
        refine wp_seq_k (fun K14 hK14 => ?_)
        refine wp_plain [true, true, true, true, true, true, false, true] rfl rfl ?_
        refine s_move hE rfl rfl ?_; clear hE a; intro a hE
        refine s_move hE rfl rfl ?_; clear hE a; intro a hE
        refine s_move hE rfl rfl ?_; clear hE a; intro a hE
        obtain ⟨cx74, hx74⟩ := own_rd (hM.get 1 rfl)
        refine s_indexRd (j := j) hE rfl hx74 rfl slt63 (by first | rfl | omega) (by first | omega | decide) rfl ?_; clear hE a; intro a p74 hE hc74 hp74
        rw [its_elem (by omega)] at hc74
        refine s_fieldAt hE rfl hc74 fo44_0 rfl ?_; clear hE a; intro a p75 hE hc75 hp75
        refine s_loadAt1 hE rfl hc75 one3 (by intro X h; cases h) rfl ?_; clear hE a; intro a hE
        refine s_call hE rfl Try.call27 ((by have h := tapNum_c tb bb (enc (ks.drop j)) false (ks.getD j it0).1 _ (hM.get 0 rfl); rw [enc_drop (by omega), tNum_enc (good_get hgd (by omega))] at h; exact h)) rfl ?_
        rintro e w11 ⟨rfl, hN⟩
        refine ⟨_, rfl, trivial, ?_⟩; clear hE a; intro a hE
        replace hM : Mem _ _ w11 [_, _] := hM.call1 hN (fun f hf x hx => by rw [List.mem_singleton.1 hf] at hx; exact .inl hx); clear hN
        refine s_assign hE rfl rfl ?_; clear hE a; intro a hE
        refine q_nil ?_
        replace hE : Env a 105 [(4, _), (9, _), (10, _), (11, _), (68, _)] := hE.sel [4, 9, 10, 11, 68] rfl
        refine hK14 _ _ ?_
        refine wp_seq_k (fun K15 hK15 => ?_)
        refine wp_plain [true, false, true] rfl rfl ?_
        refine s_move hE rfl rfl ?_; clear hE a; intro a hE
        refine s_call hE rfl Try.call30 ((by have h := tapText_c tb bb _ false 300 _ (hM.get 0 rfl); rw [tText_enc (good_get hgd (by omega)).2.2] at h; exact h)) rfl ?_
        rintro e w12 ⟨rfl, hN⟩
        refine ⟨_, rfl, trivial, ?_⟩; clear hE a; intro a hE
        replace hM : Mem _ _ w12 [_, _] := hM.call1 hN (fun f hf x hx => by rw [List.mem_singleton.1 hf] at hx; exact .inl hx); clear hN
        refine s_assign hE rfl rfl ?_; clear hE a; intro a hE
        refine q_nil ?_
        replace hE : Env a 105 [(4, _), (9, _), (10, _), (11, _), (12, _), (68, _)] := hE.sel [4, 9, 10, 11, 12, 68] rfl
        refine hK15 _ _ ?_
        refine wp_seq_k (fun K16 hK16 => ?_)
        refine wp_plain [true, true, true, true, true, true, true, true, true, true, true, true, true, true, true, true, true, true, false, true] rfl rfl ?_
        refine s_move hE rfl rfl ?_; clear hE a; intro a hE
        refine s_move hE rfl rfl ?_; clear hE a; intro a hE
        refine s_move hE rfl rfl ?_; clear hE a; intro a hE
        obtain ⟨cx83, hx83⟩ := own_rd (hM.get 1 rfl)
        refine s_indexRd (j := j) hE rfl hx83 rfl slt63 (by first | rfl | omega) (by first | omega | decide) rfl ?_; clear hE a; intro a p83 hE hc83 hp83
        rw [its_elem (by omega)] at hc83
        refine s_fieldAt hE rfl hc83 fo44_1 rfl ?_; clear hE a; intro a p84 hE hc84 hp84
        refine s_loadAt1 hE rfl hc84 one42 (by intro X h; cases h) rfl ?_; clear hE a; intro a hE
        refine s_bin hE rfl rfl bin_neq rfl ?_; clear hE a; intro a hE
        refine s_move hE rfl rfl ?_; clear hE a; intro a hE
        replace hE := hE.cast 87 rfl (show _ = Value.bool false from (congrArg Value.bool (by first | rfl | (simp; done) | (simp [str]; done))))
        refine g_yes hE rfl rfl ?_
        refine s_move hE rfl rfl ?_; clear hE a; intro a hE
        refine g_yes hE rfl rfl ?_
        refine s_move hE rfl rfl ?_; clear hE a; intro a hE
        refine g_yes hE rfl rfl ?_
        refine s_move hE rfl rfl ?_; clear hE a; intro a hE
        refine g_yes hE rfl rfl ?_
        obtain ⟨cx91, hx91⟩ := own_rd (hM.get 1 rfl)
        refine s_indexRd (j := j) hE rfl hx91 rfl slt63 (by first | rfl | omega) (by first | omega | decide) rfl ?_; clear hE a; intro a p91 hE hc91 hp91
        rw [its_elem (by omega)] at hc91
        refine g_yes hE rfl rfl ?_
        refine s_fieldAt hE rfl hc91 fo44_2 rfl ?_; clear hE a; intro a p92 hE hc92 hp92
        refine g_yes hE rfl rfl ?_
        refine s_loadAt1 hE rfl hc92 one9 (by intro X h; cases h) rfl ?_; clear hE a; intro a hE
        refine g_yes hE rfl rfl ?_
        refine s_bin hE rfl rfl bins_str.2 rfl ?_; clear hE a; intro a hE
        refine s_pickf hE rfl rfl rfl ?_; clear hE a; intro a hE
        refine s_move hE rfl rfl ?_; clear hE a; intro a hE
        replace hE := hE.cast 96 rfl (show _ = Value.bool false from (congrArg Value.bool (by first | rfl | (simp; done) | (simp [str]; done))))
        refine g_yes hE rfl rfl ?_
        refine s_move hE rfl rfl ?_; clear hE a; intro a hE
        refine g_yes hE rfl rfl ?_
        refine s_call hE rfl Try.call32 (tapTorn_c tb bb _ _ _ (hM.get 0 rfl)) rfl ?_
        rintro e w13 ⟨rfl, hN⟩
        refine ⟨_, rfl, trivial, ?_⟩; clear hE a; intro a hE
        replace hM : Mem _ _ w13 [_, _] := hM.call0 hN trivial; clear hN
        refine s_pickf hE rfl rfl rfl ?_; clear hE a; intro a hE
        refine q_nil ?_
        replace hE : Env a 105 [(4, _), (9, _), (10, _), (11, _), (12, _), (68, _), (99, _)] := hE.sel [4, 9, 10, 11, 12, 68, 99] rfl
        refine hK16 _ _ ?_
        replace hE := hE.cast 99 rfl (show _ = Value.bool false from (congrArg Value.bool (by first | rfl | (simp; done) | (simp [str]; done))))
        refine wp_cond_false (hE.eval rfl) ?_
        refine wp_skip ?_
        refine q_block_n ?_
        refine hK13 _ _ ?_
        refine wp_plain [true, true, true] rfl rfl ?_
        refine s_move hE rfl rfl ?_; clear hE a; intro a hE
        refine s_bin hE rfl rfl (bin_add (wrap_i64 (by omega) (by omega))) rfl ?_; clear hE a; intro a hE
        refine s_assign hE rfl rfl ?_; clear hE a; intro a hE
        refine q_nil ?_
        replace hE : Env a 105 [(4, _), (9, _), (10, _), (11, _), (12, _), (68, _), (99, _)] := hE.sel [4, 9, 10, 11, 12, 68, 99] rfl
        replace hE := hE.cast 10 rfl (show _ = Value.int .i64 ((j + 1 : Nat) : Int) from congrArg _ (by omega))
        exact ⟨j + 1, ⟨by omega, hE.sel [4, 9, 10] rfl, hM.pick [0, 1] rfl⟩, by omega⟩
      · replace hE := hE'; clear hE'
        replace hb68 := of_decide_eq_false hb68
        obtain rfl : j = ks.length := by omega
        refine wp_cond_false (hE.eval rfl) ?_
        refine wp_exit ?_
        refine q_then_e ?_
        refine q_then_e ?_
        refine q_block_x ?_
        refine hK9 _ _ ?_
        refine wp_seq_k (fun K13 hK13 => ?_)
        refine wp_plain [true, false, true, false, true, true] rfl rfl ?_
        refine s_move hE rfl rfl ?_; clear hE a; intro a hE
        refine s_call hE rfl Try.call26 (tapEnd_c tb bb _ _ _ (hM.get 0 rfl)) rfl ?_
        rintro e w11 ⟨rfl, hN⟩
        refine ⟨_, rfl, trivial, ?_⟩; clear hE a; intro a hE
        replace hM : Mem _ _ w11 [_, _] := hM.call0 hN trivial; clear hN
        refine s_move hE rfl rfl ?_; clear hE a; intro a hE
        replace hE := hE.cast 102 rfl (show _ = Value.bool true from (congrArg Value.bool (by simp [enc])))
        refine g_yes hE rfl rfl ?_
        refine s_call hE rfl Try.call16 (works_c _) rfl ?_
        rintro e w12 ⟨rfl, hN⟩
        refine ⟨_, rfl, trivial, ?_⟩; clear hE a; intro a hE
        replace hM : Mem _ _ w12 [_, _] := hM.call0 hN trivial; clear hN
        refine s_pickt hE rfl rfl rfl ?_; clear hE a; intro a hE
        refine s_assign hE rfl rfl ?_; clear hE a; intro a hE
        refine q_nil ?_
        replace hE : Env a 105 [(2, _), (4, _), (9, _), (10, _), (68, _)] := hE.sel [2, 4, 9, 10, 68] rfl
        refine hK13 _ _ ?_
        refine wp_ret ?_
        refine f_ret1 hE rfl rfl ?_
        exact ⟨rfl, hM.nil⟩
  · replace hE := hE'; clear hE'
    replace hb17 := of_decide_eq_false hb17
    refine g_no (b := false) hE rfl rfl rfl ?_; clear hE a; intro a hE
    refine g_no (b := false) hE rfl rfl rfl ?_; clear hE a; intro a hE
    refine s_pickf hE rfl rfl rfl ?_; clear hE a; intro a hE
    refine q_nil ?_
    replace hE : Env a 105 [(0, _), (3, _), (4, _), (5, _), (20, _)] := hE.sel [0, 3, 4, 5, 20] rfl
    refine hK7 _ _ ?_
    refine wp_cond_false (hE.eval rfl) ?_
    refine wp_exit ?_
    refine q_then_e ?_
    refine q_then_e ?_
    refine q_block_x ?_
    refine hK4 _ _ ?_
    refine wp_seq_k (fun K8 hK8 => ?_)
    refine wp_plain [true, false, true] rfl rfl ?_
    refine s_move hE rfl rfl ?_; clear hE a; intro a hE
    obtain ⟨cso, hso⟩ := own_rd (hM.get 0 rfl)
    refine s_call hE rfl Try.call24 (open_c (enc ks) _ _ _ hso (by omega)) rfl ?_
    rintro e w10 ⟨tb, bb, rfl, hbb, hN⟩
    refine ⟨_, rfl, trivial, ?_⟩; clear hE a; intro a hE
    replace hM : Mem _ _ w10 [_, _, _, _] := hM.callN hN (fun e he x hx => by rw [List.mem_singleton.1 he] at hx; exact hbb x hx); clear hN
    refine s_assign hE rfl rfl ?_; clear hE a; intro a hE
    refine q_nil ?_
    replace hE : Env a 105 [(0, _), (3, _), (4, _), (5, _), (9, _), (20, _)] := hE.sel [0, 3, 4, 5, 9, 20] rfl
    refine hK8 _ _ ?_
    refine wp_seq_k (fun K9 hK9 => ?_)
    refine wp_seq_k (fun K10 hK10 => ?_)
    refine wp_plain [true] rfl rfl ?_
    refine s_assign hE rfl rfl ?_; clear hE a; intro a hE
    refine q_nil ?_
    refine hK10 _ _ ?_
    refine wp_block ?_
    replace hM : Mem _ _ w10 [_, _, _, _] := hM.pick [0, 2, 1, 3] rfl
    refine c_loop (fun (j : Nat) a w' => j ≤ ks.length ∧ Env a 105 [(4, vk), (9, .pointer (some ⟨tb, 0, none⟩)), (10, .int .i64 j)] ∧ Mem w [] w' [tap tb bb (enc (ks.drop j)) false 66, own vk 3 ks.length (its ks)]) (fun j => ks.length - j) 0 ⟨Nat.zero_le _, hE.sel [4, 9, 10] rfl, hM.pick [0, 1] rfl⟩ ?_
    clear hE hM a; rintro j a w10 ⟨hj, hE, hM⟩
    refine wp_seq_k (fun K11 hK11 => ?_)
    refine wp_seq_k (fun K12 hK12 => ?_)
    refine wp_plain [true, true, true, true] rfl rfl ?_
    refine s_move hE rfl rfl ?_; clear hE a; intro a hE
    refine s_move hE rfl rfl ?_; clear hE a; intro a hE
    refine s_len hE rfl Try.underlying63 (own_slice (hM.get 1 rfl)) rfl ?_; clear hE a; intro a hE
    refine s_bin hE rfl rfl bin_lss rfl ?_; clear hE a; intro a hE
    refine q_nil ?_
    replace hE : Env a 105 [(4, _), (9, _), (10, _), (68, _)] := hE.sel [4, 9, 10, 68] rfl
    refine hK12 _ _ ?_
    refine hE.split 68 rfl (fun hb68 hE' => ?_) (fun hb68 hE' => ?_)
    · replace hE := hE'; clear hE'
      replace hb68 := of_decide_eq_true hb68
      refine wp_cond_true (hE.eval rfl) ?_
      refine wp_skip ?_
      refine hK11 _ _ ?_
      refine wp_seq_k (fun K13 hK13 => ?_)
      refine wp_block ?_
      refine wp_seq_k (fun K14 hK14 => ?_)
      refine wp_plain [true, true, true, true, true, true, false, true] rfl rfl ?_
      refine s_move hE rfl rfl ?_; clear hE a; intro a hE
      refine s_move hE rfl rfl ?_; clear hE a; intro a hE
      refine s_move hE rfl rfl ?_; clear hE a; intro a hE
      obtain ⟨cx74, hx74⟩ := own_rd (hM.get 1 rfl)
      refine s_indexRd (j := j) hE rfl hx74 rfl slt63 (by first | rfl | omega) (by first | omega | decide) rfl ?_; clear hE a; intro a p74 hE hc74 hp74
      rw [its_elem (by omega)] at hc74
      refine s_fieldAt hE rfl hc74 fo44_0 rfl ?_; clear hE a; intro a p75 hE hc75 hp75
      refine s_loadAt1 hE rfl hc75 one3 (by intro X h; cases h) rfl ?_; clear hE a; intro a hE
      refine s_call hE rfl Try.call27 ((by have h := tapNum_c tb bb (enc (ks.drop j)) false (ks.getD j it0).1 _ (hM.get 0 rfl); rw [enc_drop (by omega), tNum_enc (good_get hgd (by omega))] at h; exact h)) rfl ?_
      rintro e w11 ⟨rfl, hN⟩
      refine ⟨_, rfl, trivial, ?_⟩; clear hE a; intro a hE
      replace hM : Mem _ _ w11 [_, _] := hM.call1 hN (fun f hf x hx => by rw [List.mem_singleton.1 hf] at hx; exact .inl hx); clear hN
      refine s_assign hE rfl rfl ?_; clear hE a; intro a hE
      refine q_nil ?_
      replace hE : Env a 105 [(4, _), (9, _), (10, _), (11, _), (68, _)] := hE.sel [4, 9, 10, 11, 68] rfl
      refine hK14 _ _ ?_
      refine wp_seq_k (fun K15 hK15 => ?_)
      refine wp_plain [true, false, true] rfl rfl ?_
      refine s_move hE rfl rfl ?_; clear hE a; intro a hE
      refine s_call hE rfl Try.call30 ((by have h := tapText_c tb bb _ false 300 _ (hM.get 0 rfl); rw [tText_enc (good_get hgd (by omega)).2.2] at h; exact h)) rfl ?_
      rintro e w12 ⟨rfl, hN⟩
      refine ⟨_, rfl, trivial, ?_⟩; clear hE a; intro a hE
      replace hM : Mem _ _ w12 [_, _] := hM.call1 hN (fun f hf x hx => by rw [List.mem_singleton.1 hf] at hx; exact .inl hx); clear hN
      refine s_assign hE rfl rfl ?_; clear hE a; intro a hE
      refine q_nil ?_
      replace hE : Env a 105 [(4, _), (9, _), (10, _), (11, _), (12, _), (68, _)] := hE.sel [4, 9, 10, 11, 12, 68] rfl
      refine hK15 _ _ ?_
      refine wp_seq_k (fun K16 hK16 => ?_)
      refine wp_plain [true, true, true, true, true, true, true, true, true, true, true, true, true, true, true, true, true, true, false, true] rfl rfl ?_
      refine s_move hE rfl rfl ?_; clear hE a; intro a hE
      refine s_move hE rfl rfl ?_; clear hE a; intro a hE
      refine s_move hE rfl rfl ?_; clear hE a; intro a hE
      obtain ⟨cx83, hx83⟩ := own_rd (hM.get 1 rfl)
      refine s_indexRd (j := j) hE rfl hx83 rfl slt63 (by first | rfl | omega) (by first | omega | decide) rfl ?_; clear hE a; intro a p83 hE hc83 hp83
      rw [its_elem (by omega)] at hc83
      refine s_fieldAt hE rfl hc83 fo44_1 rfl ?_; clear hE a; intro a p84 hE hc84 hp84
      refine s_loadAt1 hE rfl hc84 one42 (by intro X h; cases h) rfl ?_; clear hE a; intro a hE
      refine s_bin hE rfl rfl bin_neq rfl ?_; clear hE a; intro a hE
      refine s_move hE rfl rfl ?_; clear hE a; intro a hE
      replace hE := hE.cast 87 rfl (show _ = Value.bool false from (congrArg Value.bool (by first | rfl | (simp; done) | (simp [str]; done))))
      refine g_yes hE rfl rfl ?_
      refine s_move hE rfl rfl ?_; clear hE a; intro a hE
      refine g_yes hE rfl rfl ?_
      refine s_move hE rfl rfl ?_; clear hE a; intro a hE
      refine g_yes hE rfl rfl ?_
      refine s_move hE rfl rfl ?_; clear hE a; intro a hE
      refine g_yes hE rfl rfl ?_
      obtain ⟨cx91, hx91⟩ := own_rd (hM.get 1 rfl)
      refine s_indexRd (j := j) hE rfl hx91 rfl slt63 (by first | rfl | omega) (by first | omega | decide) rfl ?_; clear hE a; intro a p91 hE hc91 hp91
      rw [its_elem (by omega)] at hc91
      refine g_yes hE rfl rfl ?_
      refine s_fieldAt hE rfl hc91 fo44_2 rfl ?_; clear hE a; intro a p92 hE hc92 hp92
      refine g_yes hE rfl rfl ?_
      refine s_loadAt1 hE rfl hc92 one9 (by intro X h; cases h) rfl ?_; clear hE a; intro a hE
      refine g_yes hE rfl rfl ?_
      refine s_bin hE rfl rfl bins_str.2 rfl ?_; clear hE a; intro a hE
      refine s_pickf hE rfl rfl rfl ?_; clear hE a; intro a hE
      refine s_move hE rfl rfl ?_; clear hE a; intro a hE
      replace hE := hE.cast 96 rfl (show _ = Value.bool false from (congrArg Value.bool (by first | rfl | (simp; done) | (simp [str]; done))))
      refine g_yes hE rfl rfl ?_
      refine s_move hE rfl rfl ?_; clear hE a; intro a hE
      refine g_yes hE rfl rfl ?_
      refine s_call hE rfl Try.call32 (tapTorn_c tb bb _ _ _ (hM.get 0 rfl)) rfl ?_
      rintro e w13 ⟨rfl, hN⟩
      refine ⟨_, rfl, trivial, ?_⟩; clear hE a; intro a hE
      replace hM : Mem _ _ w13 [_, _] := hM.call0 hN trivial; clear hN
      refine s_pickf hE rfl rfl rfl ?_; clear hE a; intro a hE
      refine q_nil ?_
      replace hE : Env a 105 [(4, _), (9, _), (10, _), (11, _), (12, _), (68, _), (99, _)] := hE.sel [4, 9, 10, 11, 12, 68, 99] rfl
      refine hK16 _ _ ?_
      replace hE := hE.cast 99 rfl (show _ = Value.bool false from (congrArg Value.bool (by first | rfl | (simp; done) | (simp [str]; done))))
      refine wp_cond_false (hE.eval rfl) ?_
      refine wp_skip ?_
      refine q_block_n ?_
      refine hK13 _ _ ?_
      refine wp_plain [true, true, true] rfl rfl ?_
      refine s_move hE rfl rfl ?_; clear hE a; intro a hE
      refine s_bin hE rfl rfl (bin_add (wrap_i64 (by omega) (by omega))) rfl ?_; clear hE a; intro a hE
      refine s_assign hE rfl rfl ?_; clear hE a; intro a hE
      refine q_nil ?_
      replace hE : Env a 105 [(4, _), (9, _), (10, _), (11, _), (12, _), (68, _), (99, _)] := hE.sel [4, 9, 10, 11, 12, 68, 99] rfl
      replace hE := hE.cast 10 rfl (show _ = Value.int .i64 ((j + 1 : Nat) : Int) from congrArg _ (by omega))
      exact ⟨j + 1, ⟨by omega, hE.sel [4, 9, 10] rfl, hM.pick [0, 1] rfl⟩, by omega⟩
    · replace hE := hE'; clear hE'
      replace hb68 := of_decide_eq_false hb68
      obtain rfl : j = ks.length := by omega
      refine wp_cond_false (hE.eval rfl) ?_
      refine wp_exit ?_
      refine q_then_e ?_
      refine q_then_e ?_
      refine q_block_x ?_
      refine hK9 _ _ ?_
      refine wp_seq_k (fun K13 hK13 => ?_)
      refine wp_plain [true, false, true, false, true, true] rfl rfl ?_
      refine s_move hE rfl rfl ?_; clear hE a; intro a hE
      refine s_call hE rfl Try.call26 (tapEnd_c tb bb _ _ _ (hM.get 0 rfl)) rfl ?_
      rintro e w11 ⟨rfl, hN⟩
      refine ⟨_, rfl, trivial, ?_⟩; clear hE a; intro a hE
      replace hM : Mem _ _ w11 [_, _] := hM.call0 hN trivial; clear hN
      refine s_move hE rfl rfl ?_; clear hE a; intro a hE
      replace hE := hE.cast 102 rfl (show _ = Value.bool true from (congrArg Value.bool (by simp [enc])))
      refine g_yes hE rfl rfl ?_
      refine s_call hE rfl Try.call16 (works_c _) rfl ?_
      rintro e w12 ⟨rfl, hN⟩
      refine ⟨_, rfl, trivial, ?_⟩; clear hE a; intro a hE
      replace hM : Mem _ _ w12 [_, _] := hM.call0 hN trivial; clear hN
      refine s_pickt hE rfl rfl rfl ?_; clear hE a; intro a hE
      refine s_assign hE rfl rfl ?_; clear hE a; intro a hE
      refine q_nil ?_
      replace hE : Env a 105 [(2, _), (4, _), (9, _), (10, _), (68, _)] := hE.sel [2, 4, 9, 10, 68] rfl
      refine hK13 _ _ ?_
      refine wp_ret ?_
      refine f_ret1 hE rfl rfl ?_
      exact ⟨rfl, hM.nil⟩
set_option maxRecDepth 100000 in
theorem bytesBack_lifted (os : Os) (started : os.Started) (H : Type) (enc : TypeId × Value → H) :
    ReturnsInHanded {} Try.checked os 8 .any (Rows.bytesBackSpec.pre6 enc Try.prog Try.f8 Rows.bytesBackRow.domain false) (Rows.bytesBackSpec.post enc Try.prog Try.f8 false true false false) := by
  refine law_lifted (C := Try.checked) (fn := Try.f8) (by kernel_rfl) started (by kernel_rfl) Try.func8 rfl (fun ds hl => ?_) rfl Try.underlying4 (by kernel_rfl) (of_decide_eq_true (by kernel_rfl)) (ChangeSpec.witness6 (enc := enc) (C := Try.checked) false ⟨#[], #[.slice none 0 0], []⟩ 8 (by kernel_rfl) (by kernel_rfl) (by kernel_rfl) (by kernel_rfl)) ?_
  · rw [Try.params8] at hl
    match ds, hl with
    | [_], _ => rfl
  · intro W base args ds ps hval hA hw
    rw [Try.params8] at hA hval hw
    obtain ⟨v0, vs0, d0, ds0, p0, q0, hargs, rfl, rfl, h0, r0⟩ := trodAll_cons hA
    obtain ⟨rfl, rfl, rfl⟩ := trodAll_nil r0
    obtain rfl : args = #[v0] := by cases args; simp_all
    obtain ⟨ls, c0, hr0, hms, hl0⟩ := arg_its Try.underlying63 (by kernel_rfl) (by kernel_rfl) (dec_trio (t0 := 3) (t1 := 42) (t2 := 9) Try.underlying44 (by kernel_rfl) (by kernel_rfl) Try.underlying3 Try.underlying42 Try.underlying9) (hval 0 63 v0 rfl rfl) h0 (fun m hm => hw m (by simp only [DataW.weightsEach, List.mem_append]; exact .inl hm))
    exact bytesBack_c ls v0 c0 W hr0 hms (Nat.le_trans hl0 (by decide))

/-- The statement. -/
theorem bytesBack_holds : Rows.BytesBackSaid :=
  OpenClaim.holds_of_wide 8 Try.f8 rfl rfl rfl rfl rfl rfl rfl ⟨rfl, rfl, rfl, rfl, rfl⟩ rfl rfl rfl rfl rfl (by kernel_rfl) Try.func8 (by kernel_rfl)
    (of_decide_eq_true (by kernel_rfl)) (by unfold Func.isWrapper; first | (rw [if_pos (by decide +kernel)]; kernel_rfl) | (rw [if_neg (by decide +kernel)]; exact ⟨rfl, rfl⟩))
    (fun os started H enc _ => bytesBack_lifted os started H enc)
#print axioms bytesBack_holds
end Go.Proofs.Ytfdndkempgnlcaa
