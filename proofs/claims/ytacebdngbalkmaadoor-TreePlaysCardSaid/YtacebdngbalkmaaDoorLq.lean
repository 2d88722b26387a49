/- Walks of functions of the given program that the claim reaches. -/
import Derived.Test.YtacebdngbalkmaaDoorLw
set_option linter.unusedSimpArgs false
set_option linter.unusedVariables false
namespace Go.Proofs.YtacebdngbalkmaaDoor
open Go Go.Kx
theorem fo86_1 : fieldOff Tryd.prog 86 1 = some 32 := by kernel_rfl
theorem fo86_2 : fieldOff Tryd.prog 86 2 = some 33 := by kernel_rfl
theorem fo86_0 : fieldOff Tryd.prog 86 0 = some 0 := by kernel_rfl
theorem zero86 : Zero Tryd.prog 86 [bv (List.replicate 32 0), [.int .i64 0], [.slice none 0 0]] := ⟨.agg ([bv (List.replicate 32 0), [.int .i64 0], [.slice none 0 0]] : List (List Value)).flatten.toArray, by kernel_rfl, by kernel_rfl⟩
theorem fpl86 : fldPl Tryd.prog 86 = some (plc 0 [32, 1, 1]) := by kernel_rfl
theorem eqa52 : ∀ {a b : List UInt8}, a.length = 64 → b.length = 64 → Bin Tryd.prog .eql 52 (.agg (bv a).toArray) (.agg (bv b).toArray) (.bool (decide (a = b))) ∧ Bin Tryd.prog .neq 52 (.agg (bv a).toArray) (.agg (bv b).toArray) (.bool (!decide (a = b))) := fun ha hb => bins_arr8 Tryd.underlying52 (by kernel_rfl) Tryd.underlying5 (by kernel_rfl) (by kernel_rfl) ha hb
theorem power_c (h : Nat) (w : World) (hh : h ≤ 12) : Calls Tryd.prog 36 #[.int .i64 (h : Int)] w fun e w' => e = .returned (.int .i64 ((2 ^ h : Nat) : Int)) ∧ Mem w [] w' [] := by
  have hM := Mem.start0 w
  refine f_enter 13 Tryd.func36 rfl rfl rfl ?_
  intro a hE
  replace hE : Env a 13 [(0, _)] := hE
  refine wp_seq_k (fun K1 hK1 => ?_)
  refine wp_plain [true] rfl rfl ?_
  refine s_assign hE rfl rfl ?_; clear hE a; intro a hE
  refine q_nil ?_
  refine hK1 _ _ ?_
  refine wp_seq_k (fun K2 hK2 => ?_)
  refine wp_plain [true] rfl rfl ?_
  refine s_assign hE rfl rfl ?_; clear hE a; intro a hE
  refine q_nil ?_
  refine hK2 _ _ ?_
  refine wp_seq_k (fun K3 hK3 => ?_)
  refine wp_seq_k (fun K4 hK4 => ?_)
  refine wp_plain [true] rfl rfl ?_
  refine s_assign hE rfl rfl ?_; clear hE a; intro a hE
  refine q_nil ?_
  refine hK4 _ _ ?_
  refine wp_block ?_
  replace hE := hE.cast 3 rfl (show _ = Value.int .i64 ((2 ^ 0 : Nat) : Int) from (by first | rfl | simp))
  refine c_loop (fun (i : Nat) a w' => i ≤ h ∧ Env a 13 [(0, .int .i64 ((h : Nat) : Int)), (2, .int .i64 0), (3, .int .i64 ((2 ^ i : Nat) : Int)), (4, .int .i64 ((i : Nat) : Int))] ∧ Mem w [] w' []) (fun i => h - i) 0 ⟨Nat.zero_le _, hE.sel [0, 2, 3, 4] rfl, hM⟩ ?_
  clear hE hM a; rintro i a w1 ⟨hi, hE, hM⟩
  refine wp_seq_k (fun K5 hK5 => ?_)
  refine wp_seq_k (fun K6 hK6 => ?_)
  refine wp_plain [true, true, true] rfl rfl ?_
  refine s_move hE rfl rfl ?_; clear hE a; intro a hE
  refine s_move hE rfl rfl ?_; clear hE a; intro a hE
  refine s_bin hE rfl rfl bin_lss rfl ?_; clear hE a; intro a hE
  refine q_nil ?_
  replace hE : Env a 13 [(0, _), (2, _), (3, _), (4, _), (7, _)] := hE.sel [0, 2, 3, 4, 7] rfl
  refine hK6 _ _ ?_
  refine hE.split 7 rfl (fun hb7 hE' => ?_) (fun hb7 hE' => ?_)
  · replace hE := hE'; clear hE'
    replace hb7 := of_decide_eq_true hb7
    replace hb7 : i < h := by omega
    replace hb7 : i < h := by omega
    refine wp_cond_true (hE.eval rfl) ?_
    refine wp_skip ?_
    refine hK5 _ _ ?_
    refine wp_seq_k (fun K7 hK7 => ?_)
    refine wp_block ?_
    refine wp_plain [true, true, true] rfl rfl ?_
    refine s_move hE rfl rfl ?_; clear hE a; intro a hE
    refine s_bin hE rfl rfl (bin_twice (i := i) (by omega)) rfl ?_; clear hE a; intro a hE
    refine s_assign hE rfl rfl ?_; clear hE a; intro a hE
    refine q_nil ?_
    replace hE : Env a 13 [(0, _), (2, _), (3, _), (4, _), (7, _)] := hE.sel [0, 2, 3, 4, 7] rfl
    refine q_block_n ?_
    refine hK7 _ _ ?_
    refine wp_plain [true, true, true] rfl rfl ?_
    refine s_move hE rfl rfl ?_; clear hE a; intro a hE
    refine s_bin hE rfl rfl (show Bin _ _ _ _ _ (.int .i64 ((i + 1 : Nat) : Int)) from bin_add (by rw [wrap_i64 (by omega) (by omega)]; omega)) rfl ?_; clear hE a; intro a hE
    refine s_assign hE rfl rfl ?_; clear hE a; intro a hE
    refine q_nil ?_
    replace hE : Env a 13 [(0, _), (2, _), (3, _), (4, _), (7, _)] := hE.sel [0, 2, 3, 4, 7] rfl
    replace hE := hE.cast 3 rfl (show _ = Value.int .i64 ((2 ^ (i + 1) : Nat) : Int) from (congrArg _ (by omega)))
    replace hE := hE.cast 4 rfl (show _ = Value.int .i64 (((i + 1) : Nat) : Int) from (congrArg _ (by omega)))
    replace hM : Mem _ _ w1 [] := hM.pick [] rfl
    exact ⟨i + 1, ⟨by omega, hE.sel [0, 2, 3, 4] rfl, hM⟩, by omega⟩
  · replace hE := hE'; clear hE'
    replace hb7 := of_decide_eq_false hb7
    replace hb7 : ¬ (i < h) := by omega
    obtain rfl : h = i := by omega
    refine wp_cond_false (hE.eval rfl) ?_
    refine wp_exit ?_
    refine q_then_e ?_
    refine q_then_e ?_
    refine q_block_x ?_
    refine hK3 _ _ ?_
    refine wp_seq_k (fun K7 hK7 => ?_)
    refine wp_plain [true, true] rfl rfl ?_
    refine s_move hE rfl rfl ?_; clear hE a; intro a hE
    refine s_assign hE rfl rfl ?_; clear hE a; intro a hE
    refine q_nil ?_
    replace hE : Env a 13 [(0, _), (2, _), (3, _), (4, _), (7, _)] := hE.sel [0, 2, 3, 4, 7] rfl
    refine hK7 _ _ ?_
    refine wp_ret ?_
    refine f_ret1 hE rfl rfl ?_
    exact ⟨(by first | rfl | (simp; done)), hM.pick [] rfl⟩
theorem rall_c (b h : Nat) (k : List UInt8) (v : Value) (l : List (List UInt8)) (c : Nat) (w : World) (hB : (blk b [bv k, [.int .i64 ((h : Nat) : Int)], [v]] [32, 1, 1] 86).holds w) (hS : (rd v 32 l.length c (l.flatMap bv)).holds w) (hl_k : k.length = 32) (ho_l : ∀ x, x ∈ l → x.length = 32) (hh : 1 ≤ h ∧ h ≤ 12) (hn : l.length = 2 ^ h) : Calls Tryd.prog 39 #[.pointer (some ⟨b, 0, none⟩)] w fun e w' => ∃ v'0, e = .returned (v'0) ∧ Mem w [] w' [own v'0 32 ((allT k (2 ^ h) l).length) ((allT k (2 ^ h) l).flatMap bv)] := by
  have hpw := two_pow_le hh
  have hpw1 := hpw.1
  have hpw2 := hpw.2
  have hbl := base_length (n := 2 ^ h) (lv := l) (by omega)
  have hM : Mem w [] w [blkR b [bv k, [.int .i64 ((h : Nat) : Int)], [v]] [32, 1, 1] 86, rd v 32 l.length c (l.flatMap bv)] := Mem.startR w (fun g hg => by
    simp only [List.mem_cons, List.not_mem_nil, or_false] at hg
    rcases hg with rfl | rfl
    · exact ⟨hB, rfl⟩
    · exact ⟨hS, rfl⟩)
  refine f_enter 60 Tryd.func39 rfl rfl rfl ?_
  intro a hE
  replace hE : Env a 60 [(0, _)] := hE
  refine wp_seq_k (fun K1 hK1 => ?_)
  refine wp_plain [true] rfl rfl ?_
  refine s_assign hE rfl rfl ?_; clear hE a; intro a hE
  refine q_nil ?_
  refine hK1 _ _ ?_
  refine wp_seq_k (fun K2 hK2 => ?_)
  refine wp_plain [true, true, true, true, false, true] rfl rfl ?_
  refine s_move hE rfl rfl ?_; clear hE a; intro a hE
  refine s_nilCheck hE rfl rfl ?_; clear hE a; intro a hE
  refine s_fieldAddr hE rfl fo86_1 rfl ?_; clear hE a; intro a hE
  refine s_load1 hE rfl (blkR_blk (hM.get 0 rfl)) rfl one3 (by intro X h; cases h) rfl ?_; clear hE a; intro a hE
  refine s_call hE rfl Tryd.call36 (power_c h _ (by first | omega | assumption | (simp; done) | (simp; omega) | decide)) rfl ?_
  rintro e w1 ⟨rfl, hN⟩
  refine ⟨_, rfl, trivial, ?_⟩; clear hE a; intro a hE
  replace hM : Mem _ _ w1 [_, _] := hM.call0 hN trivial; clear hN
  refine s_assign hE rfl rfl ?_; clear hE a; intro a hE
  refine q_nil ?_
  replace hE : Env a 60 [(0, _), (2, _), (3, _)] := hE.sel [0, 2, 3] rfl
  refine hK2 _ _ ?_
  refine wp_seq_k (fun K3 hK3 => ?_)
  refine wp_plain [true, true, false, true] rfl rfl ?_
  refine s_move hE rfl rfl ?_; clear hE a; intro a hE
  refine s_bin hE rfl rfl (show Bin _ _ _ _ _ (.int .i64 ((2 * (2 ^ h) : Nat) : Int)) from bin_mul (by rw [wrap_i64 (by omega) (by omega)]; omega)) rfl ?_; clear hE a; intro a hE
  refine s_makeSlice (m := 2 * (2 ^ h)) (zc := bv zTg) hE rfl rfl hM sl24 ⟨.agg ([bv (List.replicate 32 0)] : List (List Value)).flatten.toArray, by kernel_rfl, rfl⟩ rfl rfl (by first | decide | omega) (by first | decide | omega) (by decide) rfl ?_; clear hE a; intro a v14 w2 hE hM'; clear hM; have hM := hM'; clear hM'
  replace hM := hM.ownEq (m' := (List.replicate (2 * (2 ^ h)) zTg).length) (cs' := (List.replicate (2 * (2 ^ h)) zTg).flatMap bv) List.length_replicate.symm (rep_flat rfl)
  refine s_assign hE rfl rfl ?_; clear hE a; intro a hE
  refine q_nil ?_
  replace hE : Env a 60 [(0, _), (2, _), (3, _), (4, _)] := hE.sel [0, 2, 3, 4] rfl
  refine hK3 _ _ ?_
  refine wp_seq_k (fun K4 hK4 => ?_)
  refine wp_seq_k (fun K5 hK5 => ?_)
  refine wp_plain [true] rfl rfl ?_
  refine s_assign hE rfl rfl ?_; clear hE a; intro a hE
  refine q_nil ?_
  refine hK5 _ _ ?_
  refine wp_block ?_
  replace hM := Mem.ownRowsEq (f := bv) (ls := List.replicate (2 * (2 ^ h)) zTg) (ms := base (2 ^ h) (l.take 0)) hM (by rw [List.take_zero, base_nil])
  refine c_loop (fun (i : Nat) a w' => i ≤ 2 ^ h ∧ Env a 60 [(0, .pointer (some ⟨b, 0, none⟩)), (2, .slice none 0 0), (3, .int .i64 ((2 ^ h : Nat) : Int)), (4, v14), (5, .int .i64 ((i : Nat) : Int))] ∧ Mem w [] w' [own v14 32 ((base (2 ^ h) (l.take i)).length) ((base (2 ^ h) (l.take i)).flatMap bv), blkR b [bv k, [.int .i64 ((h : Nat) : Int)], [v]] [32, 1, 1] 86, rd v 32 l.length c (l.flatMap bv)]) (fun i => 2 ^ h - i) 0 ⟨Nat.zero_le _, hE.sel [0, 2, 3, 4, 5] rfl, hM⟩ ?_
  clear hE hM a; rintro i a w3 ⟨hi, hE, hM⟩
  refine wp_seq_k (fun K6 hK6 => ?_)
  refine wp_seq_k (fun K7 hK7 => ?_)
  refine wp_plain [true, true, true] rfl rfl ?_
  refine s_move hE rfl rfl ?_; clear hE a; intro a hE
  refine s_move hE rfl rfl ?_; clear hE a; intro a hE
  refine s_bin hE rfl rfl bin_lss rfl ?_; clear hE a; intro a hE
  refine q_nil ?_
  replace hE : Env a 60 [(0, _), (2, _), (3, _), (4, _), (5, _), (17, _)] := hE.sel [0, 2, 3, 4, 5, 17] rfl
  refine hK7 _ _ ?_
  refine hE.split 17 rfl (fun hb17 hE' => ?_) (fun hb17 hE' => ?_)
  · replace hE := hE'; clear hE'
    replace hb17 := of_decide_eq_true hb17
    replace hb17 : i < (2 ^ h) := by omega
    replace hb17 : i < 2 ^ h := by omega
    refine wp_cond_true (hE.eval rfl) ?_
    refine wp_skip ?_
    refine hK6 _ _ ?_
    refine wp_seq_k (fun K8 hK8 => ?_)
    refine wp_block ?_
    refine wp_plain [true, true, true, true, true, true, true, true, true, true, true, true, false] rfl rfl ?_
    refine s_move hE rfl rfl ?_; clear hE a; intro a hE
    refine s_move hE rfl rfl ?_; clear hE a; intro a hE
    refine s_move hE rfl rfl ?_; clear hE a; intro a hE
    refine s_bin hE rfl rfl (show Bin _ _ _ _ _ (.int .i64 (((2 ^ h) + i : Nat) : Int)) from bin_add (by rw [wrap_i64 (by omega) (by omega)]; omega)) rfl ?_; clear hE a; intro a hE
    refine s_move hE rfl rfl ?_; clear hE a; intro a hE
    refine s_nilCheck hE rfl rfl ?_; clear hE a; intro a hE
    refine s_fieldAddr hE rfl fo86_2 rfl ?_; clear hE a; intro a hE
    refine s_load1 hE rfl (blkR_blk (hM.get 1 rfl)) rfl one24 (by intro X h; cases h) rfl ?_; clear hE a; intro a hE
    refine s_move hE rfl rfl ?_; clear hE a; intro a hE
    refine s_indexRd (j := i) hE rfl (hM.get 2 rfl) rfl slt24 (by first | rfl | omega) (by first | (simp only [bld_length, hbl]; omega) | (rw [base_length (by rw [List.length_take]; omega)]; omega) | omega) rfl ?_; clear hE a; intro a p29 hE hc29 hp29
    have hlj29 : i < l.length := (by first | (simp only [bld_length, hbl]; omega) | (rw [base_length (by rw [List.length_take]; omega)]; omega) | omega)
    have hok29 := ho_l _ (getD_mem (d := zTg) hlj29)
    rw [flat_elem (d := zTg) (fun x hx => ((bv_length _).trans (ho_l x hx))) hlj29] at hc29
    refine s_loadAtN hE rfl hc29 (by rw [((bv_length _).trans hok29)]; exact row34) (by intro X h; cases h) rfl ?_; clear hE a; intro a hE
    replace hE := hE.cast 30 rfl (show _ = Value.agg (bv (l.getD i zTg)).toArray from rfl)
    have hlj31 : (2 ^ h) + i < (base (2 ^ h) (l.take i)).length := (by first | (simp only [bld_length, hbl]; omega) | (rw [base_length (by rw [List.length_take]; omega)]; omega) | omega)
    refine s_indexOwn (j := (2 ^ h) + i) hE rfl (hM.get 0 rfl) rfl slt24 (by first | rfl | omega) hlj31 rfl ?_; clear hE a; intro a hE hc31
    have hls31 : (l.getD i zTg).length = 32 := hok29
    refine s_storeOwn (vs := bv (l.getD i zTg)) hE rfl rfl hM rfl sz34 ((bv_length _).trans hls31) (bv_one _) (by rw [bv_length, hls31]; have := hlj31; omega) (by have := hlj31; omega) (by intro X h; cases h) ?_; intro w4 hM'; clear hM; have hM := hM'; clear hM'
    replace hM := Mem.rowPut (ls := base (2 ^ h) (l.take i)) (x := (l.getD i zTg)) (j := (2 ^ h) + i) hM rfl (OkTs.base (take_okT ho_l)) hls31 hlj31
    refine q_nil ?_
    replace hE : Env a 60 [(0, _), (2, _), (3, _), (4, _), (5, _), (17, _)] := hE.sel [0, 2, 3, 4, 5, 17] rfl
    refine q_block_n ?_
    refine hK8 _ _ ?_
    refine wp_plain [true, true, true] rfl rfl ?_
    refine s_move hE rfl rfl ?_; clear hE a; intro a hE
    refine s_bin hE rfl rfl (show Bin _ _ _ _ _ (.int .i64 ((i + 1 : Nat) : Int)) from bin_add (by rw [wrap_i64 (by omega) (by omega)]; omega)) rfl ?_; clear hE a; intro a hE
    refine s_assign hE rfl rfl ?_; clear hE a; intro a hE
    refine q_nil ?_
    replace hE : Env a 60 [(0, _), (2, _), (3, _), (4, _), (5, _), (17, _)] := hE.sel [0, 2, 3, 4, 5, 17] rfl
    replace hE := hE.cast 5 rfl (show _ = Value.int .i64 (((i + 1) : Nat) : Int) from (congrArg _ (by omega)))
    replace hM := Mem.ownRowsEq (f := bv) (ls := (base (2 ^ h) (l.take i)).set ((2 ^ h) + i) (l.getD i zTg)) (ms := base (2 ^ h) (l.take (i + 1))) hM (base_set (by omega) (by omega))
    replace hM : Mem _ _ w4 [_, _, _] := hM.pick [0, 1, 2] rfl
    exact ⟨i + 1, ⟨by omega, hE.sel [0, 2, 3, 4, 5] rfl, hM⟩, by omega⟩
  · replace hE := hE'; clear hE'
    replace hb17 := of_decide_eq_false hb17
    replace hb17 : ¬ (i < (2 ^ h)) := by omega
    obtain rfl : 2 ^ h = i := by omega
    replace hM := Mem.ownRowsEq (f := bv) (ls := base (2 ^ h) (l.take (2 ^ h))) (ms := base (2 ^ h) l) hM (by rw [List.take_of_length_le (by omega)])
    refine wp_cond_false (hE.eval rfl) ?_
    refine wp_exit ?_
    refine q_then_e ?_
    refine q_then_e ?_
    refine q_block_x ?_
    refine hK4 _ _ ?_
    refine wp_seq_k (fun K8 hK8 => ?_)
    refine wp_seq_k (fun K9 hK9 => ?_)
    refine wp_plain [true, true, true] rfl rfl ?_
    refine s_move hE rfl rfl ?_; clear hE a; intro a hE
    refine s_bin hE rfl rfl (show Bin _ _ _ _ _ (.int .i64 (((2 ^ h) - 1 : Nat) : Int)) from bin_sub (by rw [wrap_i64 (by omega) (by omega)]; omega)) rfl ?_; clear hE a; intro a hE
    refine s_assign hE rfl rfl ?_; clear hE a; intro a hE
    refine q_nil ?_
    replace hE : Env a 60 [(0, _), (2, _), (3, _), (4, _), (5, _), (6, _), (17, _)] := hE.sel [0, 2, 3, 4, 5, 6, 17] rfl
    refine hK9 _ _ ?_
    refine wp_block ?_
    replace hM := Mem.ownRowsEq (f := bv) (ls := base (2 ^ h) l) (ms := bld k (2 ^ h) (base (2 ^ h) l) 0) hM rfl
    replace hE := hE.cast 6 rfl (show _ = Value.int .i64 ((2 ^ h - 1 - 0 : Nat) : Int) from (by first | rfl | simp))
    refine c_loop (fun (i : Nat) a w' => i ≤ 2 ^ h - 1 ∧ Env a 60 [(0, .pointer (some ⟨b, 0, none⟩)), (2, .slice none 0 0), (3, .int .i64 ((2 ^ h : Nat) : Int)), (4, v14), (5, .int .i64 (((2 ^ h) : Nat) : Int)), (6, .int .i64 ((2 ^ h - 1 - i : Nat) : Int)), (17, .bool false)] ∧ Mem w [] w' [own v14 32 ((bld k (2 ^ h) (base (2 ^ h) l) i).length) ((bld k (2 ^ h) (base (2 ^ h) l) i).flatMap bv), blkR b [bv k, [.int .i64 ((h : Nat) : Int)], [v]] [32, 1, 1] 86, rd v 32 l.length c (l.flatMap bv)]) (fun i => 2 ^ h - 1 - i) 0 ⟨Nat.zero_le _, hE.sel [0, 2, 3, 4, 5, 6, 17] rfl, hM⟩ ?_
    clear hE hM a; rintro i a w4 ⟨hi, hE, hM⟩
    refine wp_seq_k (fun K10 hK10 => ?_)
    refine wp_seq_k (fun K11 hK11 => ?_)
    refine wp_plain [true, true] rfl rfl ?_
    refine s_move hE rfl rfl ?_; clear hE a; intro a hE
    refine s_bin hE rfl rfl bin_geq rfl ?_; clear hE a; intro a hE
    refine q_nil ?_
    replace hE : Env a 60 [(0, _), (2, _), (3, _), (4, _), (5, _), (6, _), (17, _), (35, _)] := hE.sel [0, 2, 3, 4, 5, 6, 17, 35] rfl
    refine hK11 _ _ ?_
    refine hE.split 35 rfl (fun hb35 hE' => ?_) (fun hb35 hE' => ?_)
    · replace hE := hE'; clear hE'
      replace hb35 := of_decide_eq_true hb35
      replace hb35 : 1 ≤ (2 ^ h - 1 - i) := by omega
      replace hb35 : i < 2 ^ h - 1 := by omega
      refine wp_cond_true (hE.eval rfl) ?_
      refine wp_skip ?_
      refine hK10 _ _ ?_
      refine wp_seq_k (fun K12 hK12 => ?_)
      refine wp_block ?_
      refine wp_treeM hM (by kernel_rfl) (fun _ => True) (fun _ => True) (.re [(0, true), (1, true), (2, true), (3, true), (4, true), (6, true), (7, true), (8, true), (9, true), (10, true), (12, true), (13, true), (14, true), (15, true), (16, true), (5, true), (11, true), (17, true), (18, false), (19, false), (20, true), (21, false)] (.fl 15 (.weak (.fl 3 (.or 18 (.cut (.re [(19, false), (20, true), (21, false)] (.fl 0 (.fl 0 (.or 19 (.re [(20, true), (21, false)] (.fl 1 (.fl 0 (.weak (.or 21 (.cut (.re [] (.weak (.leaf 0)))) (.stop)))))) (.stop)))))) (.stop)))))) [(0, true), (1, true), (2, true), (3, true), (4, true), (6, true), (7, true), (8, true), (9, true), (10, true), (12, true), (13, true), (14, true), (15, true), (16, true), (5, true), (11, true), (17, true), (18, false), (19, false), (20, true), (21, false)] [(3, [(4, 3), (5, 4), (19, 5), (20, 3), (21, 3)]), (4, [(5, 4), (19, 5), (20, 4), (21, 4)]), (5, [(19, 5), (20, 5), (21, 5)]), (9, [(10, 9), (11, 10), (18, 11), (19, 18), (20, 9), (21, 9)]), (10, [(11, 10), (18, 11), (19, 18), (20, 10), (21, 10)]), (11, [(18, 11), (19, 18), (20, 11), (21, 11)]), (14, [(15, 14), (16, 15), (17, 16), (18, 17), (19, 18), (20, 14), (21, 14)]), (15, [(16, 15), (17, 16), (18, 17), (19, 18), (20, 15), (21, 15)]), (16, [(17, 16), (18, 17), (19, 18), (20, 16), (21, 16)]), (17, [(18, 17), (19, 18), (20, 17), (21, 17)]), (18, [(19, 18), (20, 18), (21, 18)]), (19, [(20, 19), (21, 19)]), (20, [(21, 20)]), (21, [])] (by kernel_rfl) ?_
      intro w5 hM' hww5; clear hM; have hM := hM'; clear hM'
      refine o_re ?_
      refine o_fl rfl ?_
      refine s_move hE rfl rfl ?_; clear hE a; intro a hE
      refine s_move hE rfl rfl ?_; clear hE a; intro a hE
      refine s_move hE rfl rfl ?_; clear hE a; intro a hE
      refine s_nilCheck hE rfl rfl ?_; clear hE a; intro a hE
      refine s_fieldAddr hE rfl fo86_0 rfl ?_; clear hE a; intro a hE
      refine s_move hE rfl rfl ?_; clear hE a; intro a hE
      refine s_move hE rfl rfl ?_; clear hE a; intro a hE
      refine s_move hE rfl rfl ?_; clear hE a; intro a hE
      refine s_bin hE rfl rfl (show Bin _ _ _ _ _ (.int .i64 ((2 * (2 ^ h - 1 - i) : Nat) : Int)) from bin_mul (by rw [wrap_i64 (by omega) (by omega)]; omega)) rfl ?_; clear hE a; intro a hE
      obtain ⟨cx48, hx48⟩ := own_rd (hM.get 0 rfl)
      refine s_indexRd (j := 2 * (2 ^ h - 1 - i)) hE rfl hx48 rfl slt24 (by first | rfl | omega) (by first | (simp only [bld_length, hbl]; omega) | (rw [base_length (by rw [List.length_take]; omega)]; omega) | omega) rfl ?_; clear hE a; intro a p48 hE hc48 hp48
      have hlj48 : 2 * (2 ^ h - 1 - i) < (bld k (2 ^ h) (base (2 ^ h) l) i).length := (by first | (simp only [bld_length, hbl]; omega) | (rw [base_length (by rw [List.length_take]; omega)]; omega) | omega)
      have hok48 := (OkTs.bld (OkTs.base ho_l) _) _ (getD_mem (d := zTg) hlj48)
      rw [flat_elem (d := zTg) (fun x hx => ((bv_length _).trans ((OkTs.bld (OkTs.base ho_l) _) x hx))) hlj48] at hc48
      refine s_move hE rfl rfl ?_; clear hE a; intro a hE
      refine s_move hE rfl rfl ?_; clear hE a; intro a hE
      refine s_bin hE rfl rfl (show Bin _ _ _ _ _ (.int .i64 ((2 * (2 ^ h - 1 - i) : Nat) : Int)) from bin_mul (by rw [wrap_i64 (by omega) (by omega)]; omega)) rfl ?_; clear hE a; intro a hE
      refine s_bin hE rfl rfl (show Bin _ _ _ _ _ (.int .i64 (((2 * (2 ^ h - 1 - i)) + 1 : Nat) : Int)) from bin_add (by rw [wrap_i64 (by omega) (by omega)]; omega)) rfl ?_; clear hE a; intro a hE
      obtain ⟨cx54, hx54⟩ := own_rd (hM.get 0 rfl)
      refine s_indexRd (j := (2 * (2 ^ h - 1 - i)) + 1) hE rfl hx54 rfl slt24 (by first | rfl | omega) (by first | (simp only [bld_length, hbl]; omega) | (rw [base_length (by rw [List.length_take]; omega)]; omega) | omega) rfl ?_; clear hE a; intro a p54 hE hc54 hp54
      have hlj54 : (2 * (2 ^ h - 1 - i)) + 1 < (bld k (2 ^ h) (base (2 ^ h) l) i).length := (by first | (simp only [bld_length, hbl]; omega) | (rw [base_length (by rw [List.length_take]; omega)]; omega) | omega)
      have hok54 := (OkTs.bld (OkTs.base ho_l) _) _ (getD_mem (d := zTg) hlj54)
      rw [flat_elem (d := zTg) (fun x hx => ((bv_length _).trans ((OkTs.bld (OkTs.base ho_l) _) x hx))) hlj54] at hc54
      refine q_nil (q_nx ?_)
      refine o_weak (fun _ => False) (fun _ _ => trivial) ?_
      refine o_fl rfl ?_
      refine s_loadN hE rfl (blkR_blk (hM.get 1 rfl)) row23 rfl (by intro X h; cases h; simp) rfl ?_; clear hE a; intro a hE
      refine s_loadAtN hE rfl hc48 (by rw [((bv_length _).trans hok48)]; exact row34) (by intro X h; cases h; simp) rfl ?_; clear hE a; intro a hE
      replace hE := hE.cast 49 rfl (show _ = Value.agg (bv ((bld k (2 ^ h) (base (2 ^ h) l) i).getD (2 * (2 ^ h - 1 - i)) zTg)).toArray from rfl)
      refine s_loadAtN hE rfl hc54 (by rw [((bv_length _).trans hok54)]; exact row34) (by intro X h; cases h; simp) rfl ?_; clear hE a; intro a hE
      replace hE := hE.cast 55 rfl (show _ = Value.agg (bv ((bld k (2 ^ h) (base (2 ^ h) l) i).getD ((2 * (2 ^ h - 1 - i)) + 1) zTg)).toArray from rfl)
      refine q_nil (q_nx ?_)
      refine o_or rfl ?_ ?_
      · refine s_call hE rfl Tryd.call40 (rjoin_c ((bld k (2 ^ h) (base (2 ^ h) l) i).getD (2 * (2 ^ h - 1 - i)) zTg) ((bld k (2 ^ h) (base (2 ^ h) l) i).getD ((2 * (2 ^ h - 1 - i)) + 1) zTg) _ hok48 hok54) rfl ?_
        rintro e w6 ⟨rfl, hN⟩
        refine ⟨_, rfl, hN.sta0 _, ?_⟩; clear hE a; intro a hE
        replace hM : Mem _ _ w6 [_, _, _] := hM.call0 hN trivial; clear hN
        refine q_nil (q_nx ?_)
        refine o_cut (fun _ => True) ?_
        refine o_re ?_
        refine o_fl rfl ?_
        refine q_nil (q_nx ?_)
        refine o_fl rfl ?_
        refine q_nil (q_nx ?_)
        refine o_or rfl ?_ ?_
        · refine s_call hE rfl Tryd.call38 (rnode_c k ((2 ^ h - 1 - i : Nat) : Int) (((bld k (2 ^ h) (base (2 ^ h) l) i).getD (2 * (2 ^ h - 1 - i)) zTg) ++ ((bld k (2 ^ h) (base (2 ^ h) l) i).getD ((2 * (2 ^ h - 1 - i)) + 1) zTg)) _ hl_k (List.length_append.trans (congr (congrArg HAdd.hAdd hok48) hok54))) rfl ?_
          rintro e w7 ⟨rfl, hN⟩
          refine ⟨_, rfl, hN.sta0 _, ?_⟩; clear hE a; intro a hE
          replace hM : Mem _ _ w7 [_, _, _] := hM.call0 hN trivial; clear hN
          replace hE := hE.cast 57 rfl (show _ = Value.agg (bv (nd k (2 ^ h - 1 - i) (((bld k (2 ^ h) (base (2 ^ h) l) i).getD (2 * (2 ^ h - 1 - i)) zTg) ++ ((bld k (2 ^ h) (base (2 ^ h) l) i).getD ((2 * (2 ^ h - 1 - i)) + 1) zTg)))).toArray from rfl)
          refine q_nil (q_nx ?_)
          refine o_re ?_
          refine o_fl rfl ?_
          have hlj58 : 2 ^ h - 1 - i < (bld k (2 ^ h) (base (2 ^ h) l) i).length := (by first | (simp only [bld_length, hbl]; omega) | (rw [base_length (by rw [List.length_take]; omega)]; omega) | omega)
          refine s_indexOwn (j := 2 ^ h - 1 - i) hE rfl (hM.get 0 rfl) rfl slt24 (by first | rfl | omega) hlj58 rfl ?_; clear hE a; intro a hE hc58
          refine q_nil (q_nx ?_)
          refine o_fl rfl ?_
          refine q_nil (q_nx ?_)
          refine o_weak (fun b => b ∈ valBlocks v14) (fun _ _ => trivial) ?_
          refine o_or rfl ?_ ?_
          · have hls58 : (nd k (2 ^ h - 1 - i) (((bld k (2 ^ h) (base (2 ^ h) l) i).getD (2 * (2 ^ h - 1 - i)) zTg) ++ ((bld k (2 ^ h) (base (2 ^ h) l) i).getD ((2 * (2 ^ h - 1 - i)) + 1) zTg))).length = 32 := (nd_len ..)
            refine s_storeOwn (vs := bv (nd k (2 ^ h - 1 - i) (((bld k (2 ^ h) (base (2 ^ h) l) i).getD (2 * (2 ^ h - 1 - i)) zTg) ++ ((bld k (2 ^ h) (base (2 ^ h) l) i).getD ((2 * (2 ^ h - 1 - i)) + 1) zTg)))) hE rfl rfl hM rfl sz34 ((bv_length _).trans hls58) (bv_one _) (by rw [bv_length, hls58]; have := hlj58; omega) (by have := hlj58; omega) (by intro X h; cases h; exact fun _ hb => hb) ?_; intro w8 hM'; clear hM; have hM := hM'; clear hM'
            replace hM := Mem.rowPut (ls := bld k (2 ^ h) (base (2 ^ h) l) i) (x := nd k (2 ^ h - 1 - i) (((bld k (2 ^ h) (base (2 ^ h) l) i).getD (2 * (2 ^ h - 1 - i)) zTg) ++ ((bld k (2 ^ h) (base (2 ^ h) l) i).getD ((2 * (2 ^ h - 1 - i)) + 1) zTg))) (j := 2 ^ h - 1 - i) hM rfl (OkTs.bld (OkTs.base ho_l) _) hls58 hlj58
            refine q_nil (q_nx ?_)
            refine o_cut (fun _ => True) ?_
            refine o_re ?_
            refine o_weak (fun _ => False) (fun _ _ => trivial) ?_
            refine o_leaf rfl rfl ?_
            refine q_nil (q_ph (q_nil ?_))
            replace hE : Env a 60 [(0, _), (2, _), (3, _), (4, _), (5, _), (6, _), (17, _), (35, _)] := hE.sel [0, 2, 3, 4, 5, 6, 17, 35] rfl
            refine q_block_n ?_
            refine hK12 _ _ ?_
            refine wp_plain [true, true, true] rfl rfl ?_
            refine s_move hE rfl rfl ?_; clear hE a; intro a hE
            refine s_bin hE rfl rfl (show Bin _ _ _ _ _ (.int .i64 (((2 ^ h - 1 - i) - 1 : Nat) : Int)) from bin_sub (by rw [wrap_i64 (by omega) (by omega)]; omega)) rfl ?_; clear hE a; intro a hE
            refine s_assign hE rfl rfl ?_; clear hE a; intro a hE
            refine q_nil ?_
            replace hE : Env a 60 [(0, _), (2, _), (3, _), (4, _), (5, _), (6, _), (17, _), (35, _)] := hE.sel [0, 2, 3, 4, 5, 6, 17, 35] rfl
            replace hE := hE.cast 6 rfl (show _ = Value.int .i64 ((2 ^ h - 1 - (i + 1) : Nat) : Int) from (congrArg _ (by omega)))
            replace hM := Mem.ownRowsEq (f := bv) (ls := (bld k (2 ^ h) (base (2 ^ h) l) i).set (2 ^ h - 1 - i) (nd k (2 ^ h - 1 - i) (((bld k (2 ^ h) (base (2 ^ h) l) i).getD (2 * (2 ^ h - 1 - i)) zTg) ++ ((bld k (2 ^ h) (base (2 ^ h) l) i).getD ((2 * (2 ^ h - 1 - i)) + 1) zTg)))) (ms := bld k (2 ^ h) (base (2 ^ h) l) (i + 1)) hM (by simp only [bld, stepB]; rfl)
            replace hM : Mem _ _ w8 [_, _, _] := hM.pick [0, 1, 2] rfl
            exact ⟨i + 1, ⟨by omega, hE.sel [0, 2, 3, 4, 5, 6, 17] rfl, hM⟩, by omega⟩
          trivial
        trivial
      trivial
    · replace hE := hE'; clear hE'
      replace hb35 := of_decide_eq_false hb35
      replace hb35 : ¬ (1 ≤ (2 ^ h - 1 - i)) := by omega
      obtain rfl : 2 ^ h - 1 = i := by omega
      refine wp_cond_false (hE.eval rfl) ?_
      refine wp_exit ?_
      refine q_then_e ?_
      refine q_then_e ?_
      refine q_block_x ?_
      refine hK8 _ _ ?_
      refine wp_seq_k (fun K12 hK12 => ?_)
      refine wp_plain [true, true] rfl rfl ?_
      refine s_move hE rfl rfl ?_; clear hE a; intro a hE
      refine s_assign hE rfl rfl ?_; clear hE a; intro a hE
      refine q_nil ?_
      replace hE : Env a 60 [(0, _), (2, _), (3, _), (4, _), (5, _), (6, _), (17, _), (35, _)] := hE.sel [0, 2, 3, 4, 5, 6, 17, 35] rfl
      refine hK12 _ _ ?_
      refine wp_ret ?_
      refine f_ret1 hE rfl rfl ?_
      replace hM := Mem.ownRowsEq (f := bv) (ls := bld k (2 ^ h) (base (2 ^ h) l) (2 ^ h - 1)) (ms := allT k (2 ^ h) l) hM rfl
      exact ⟨_, (by first | rfl | (simp; done)), hM.pick [0] rfl⟩
theorem rpath_c (h : Nat) (q : Nat) (w : World) (hh : 1 ≤ h ∧ h ≤ 12) (hq : q < 2 ^ h) : Calls Tryd.prog 20 #[.int .i64 (h : Int), .int .i64 (q : Int)] w fun e w' => ∃ v'0, e = .returned (v'0) ∧ Mem w [] w' [own v'0 1 ((pathL (2 ^ h + q)).length) ((pathL (2 ^ h + q)).flatMap intC)] := by
  have hpw := two_pow_le hh
  have hpw1 := hpw.1
  have hpw2 := hpw.2
  have hM := Mem.start0 w
  refine f_enter 37 Tryd.func20 rfl rfl rfl ?_
  intro a hE
  replace hE : Env a 37 [(0, _), (1, _)] := hE
  refine wp_seq_k (fun K1 hK1 => ?_)
  refine wp_plain [true] rfl rfl ?_
  refine s_assign hE rfl rfl ?_; clear hE a; intro a hE
  refine q_nil ?_
  refine hK1 _ _ ?_
  refine wp_seq_k (fun K2 hK2 => ?_)
  refine wp_seq_k (fun K3 hK3 => ?_)
  refine wp_plain [true, true, true, true, true, true, true, true, true, true, true, true, true, false, true, true] rfl rfl ?_
  refine s_move hE rfl rfl ?_; clear hE a; intro a hE
  refine s_bin hE rfl rfl bin_lss rfl ?_; clear hE a; intro a hE
  refine s_move hE rfl rfl ?_; clear hE a; intro a hE
  replace hE := hE.cast 9 rfl (show _ = Value.bool false from (congrArg Value.bool (decide_eq_false (by omega))))
  refine g_yes hE rfl rfl ?_
  refine s_move hE rfl rfl ?_; clear hE a; intro a hE
  refine g_yes hE rfl rfl ?_
  refine s_bin hE rfl rfl bin_gtr rfl ?_; clear hE a; intro a hE
  refine s_pickf hE rfl rfl rfl ?_; clear hE a; intro a hE
  refine s_move hE rfl rfl ?_; clear hE a; intro a hE
  replace hE := hE.cast 13 rfl (show _ = Value.bool false from (congrArg Value.bool (decide_eq_false (by omega))))
  refine g_yes hE rfl rfl ?_
  refine s_move hE rfl rfl ?_; clear hE a; intro a hE
  refine g_yes hE rfl rfl ?_
  refine s_bin hE rfl rfl bin_lss rfl ?_; clear hE a; intro a hE
  refine s_pickf hE rfl rfl rfl ?_; clear hE a; intro a hE
  refine s_move hE rfl rfl ?_; clear hE a; intro a hE
  replace hE := hE.cast 17 rfl (show _ = Value.bool false from (congrArg Value.bool (decide_eq_false (by omega))))
  refine g_yes hE rfl rfl ?_
  refine s_move hE rfl rfl ?_; clear hE a; intro a hE
  refine g_yes hE rfl rfl ?_
  refine s_move hE rfl rfl ?_; clear hE a; intro a hE
  refine g_yes hE rfl rfl ?_
  refine s_call hE rfl Tryd.call36 (power_c h _ (by first | omega | assumption | (simp; done) | (simp; omega) | decide)) rfl ?_
  rintro e w1 ⟨rfl, hN⟩
  refine ⟨_, rfl, trivial, ?_⟩; clear hE a; intro a hE
  replace hM : Mem _ _ w1 [] := hM.call0 hN trivial; clear hN
  refine g_yes hE rfl rfl ?_
  refine s_bin hE rfl rfl bin_geq rfl ?_; clear hE a; intro a hE
  refine s_pickf hE rfl rfl rfl ?_; clear hE a; intro a hE
  refine q_nil ?_
  replace hE : Env a 37 [(0, _), (1, _), (4, _), (22, _)] := hE.sel [0, 1, 4, 22] rfl
  refine hK3 _ _ ?_
  replace hE := hE.cast 22 rfl (show _ = Value.bool false from (congrArg Value.bool (decide_eq_false (by omega))))
  refine wp_cond_false (hE.eval rfl) ?_
  refine wp_skip ?_
  refine hK2 _ _ ?_
  refine wp_seq_k (fun K4 hK4 => ?_)
  refine wp_plain [true] rfl rfl ?_
  refine s_assign hE rfl rfl ?_; clear hE a; intro a hE
  refine q_nil ?_
  refine hK4 _ _ ?_
  refine wp_seq_k (fun K5 hK5 => ?_)
  refine wp_seq_k (fun K6 hK6 => ?_)
  refine wp_plain [true, false, true, true, true, true] rfl rfl ?_
  refine s_move hE rfl rfl ?_; clear hE a; intro a hE
  refine s_call hE rfl Tryd.call36 (power_c h _ (by first | omega | assumption | (simp; done) | (simp; omega) | decide)) rfl ?_
  rintro e w2 ⟨rfl, hN⟩
  refine ⟨_, rfl, trivial, ?_⟩; clear hE a; intro a hE
  replace hM : Mem _ _ w2 [] := hM.call0 hN trivial; clear hN
  refine s_move hE rfl rfl ?_; clear hE a; intro a hE
  refine s_bin hE rfl rfl (show Bin _ _ _ _ _ (.int .i64 (((2 ^ h) + q : Nat) : Int)) from bin_add (by rw [wrap_i64 (by omega) (by omega)]; omega)) rfl ?_; clear hE a; intro a hE
  refine s_bin hE rfl rfl (bin_quo_nat (m := ((2 ^ h) + q)) (s := 2) (by decide) (wrap_i64 (by omega) (by omega))) rfl ?_; clear hE a; intro a hE
  refine s_assign hE rfl rfl ?_; clear hE a; intro a hE
  refine q_nil ?_
  replace hE : Env a 37 [(0, _), (1, _), (4, _), (5, _), (6, _), (22, _)] := hE.sel [0, 1, 4, 5, 6, 22] rfl
  refine hK6 _ _ ?_
  refine wp_block ?_
  replace hM := hM.addNil 1
  replace hM := hM.ownEq (m' := ([] : List Nat).length) (cs' := ([] : List Nat).flatMap intC) rfl rfl
  replace hM := Mem.ownRowsEq (f := intC) (ls := ([] : List Nat)) (ms := (pathL (2 ^ h + q)).take 0) hM rfl
  replace hE := hE.cast 6 rfl (show _ = Value.int .i64 (((2 ^ h + q) / 2 ^ (0 + 1) : Nat) : Int) from rfl)
  refine c_loop (fun (i : Nat) a w' => i ≤ h ∧ ∃ vl5, Env a 37 [(0, .int .i64 ((h : Nat) : Int)), (1, .int .i64 ((q : Nat) : Int)), (4, .slice none 0 0), (5, vl5), (6, .int .i64 (((2 ^ h + q) / 2 ^ (i + 1) : Nat) : Int)), (22, .bool false)] ∧ Mem w [] w' [own vl5 1 (((pathL (2 ^ h + q)).take i).length) (((pathL (2 ^ h + q)).take i).flatMap intC)]) (fun i => h - i) 0 ⟨Nat.zero_le _, _, hE.sel [0, 1, 4, 5, 6, 22] rfl, hM⟩ ?_
  clear hE hM a; rintro i a w3 ⟨hi, vl5, hE, hM⟩
  refine wp_seq_k (fun K7 hK7 => ?_)
  refine wp_seq_k (fun K8 hK8 => ?_)
  refine wp_plain [true, true] rfl rfl ?_
  refine s_move hE rfl rfl ?_; clear hE a; intro a hE
  refine s_bin hE rfl rfl bin_geq rfl ?_; clear hE a; intro a hE
  refine q_nil ?_
  replace hE : Env a 37 [(0, _), (1, _), (4, _), (5, _), (6, _), (22, _), (29, _)] := hE.sel [0, 1, 4, 5, 6, 22, 29] rfl
  refine hK8 _ _ ?_
  refine hE.split 29 rfl (fun hb29 hE' => ?_) (fun hb29 hE' => ?_)
  · replace hE := hE'; clear hE'
    replace hb29 := of_decide_eq_true hb29
    replace hb29 : 1 ≤ ((2 ^ h + q) / 2 ^ (i + 1)) := by omega
    have hi2 : i < h := (path_lt hq).1 (by omega)
    have hdl : (2 ^ h + q) / 2 ^ (i + 1) ≤ 2 ^ h + q := Nat.div_le_self _ _
    have hdz : (0 : Int) ≤ (((2 ^ h + q) / 2 ^ (i + 1) : Nat) : Int) := Int.natCast_nonneg _
    have hone : 1 ≤ (2 ^ h + q) / 2 ^ (i + 1) := (path_lt hq).2 hi2
    refine wp_cond_true (hE.eval rfl) ?_
    refine wp_skip ?_
    refine hK7 _ _ ?_
    refine wp_seq_k (fun K9 hK9 => ?_)
    refine wp_block ?_
    refine wp_plain [true, true, false, false, true] rfl rfl ?_
    refine s_move hE rfl rfl ?_; clear hE a; intro a hE
    refine s_move hE rfl rfl ?_; clear hE a; intro a hE
    refine s_buildSlice (xs := [.tmp 33]) ([.int .i64 (((2 ^ h + q) / 2 ^ (i + 1) : Nat) : Int)]) hE hM sl35 rfl rfl rfl (by intro v hv; simp only [List.mem_cons, List.not_mem_nil, or_false] at hv; rcases hv with rfl <;> rfl) rfl rfl rfl rfl ?_; clear hE a; intro a v34 w4 hE hM'
    clear hM; have hM := hM'; clear hM'
    replace hM := hM.ownEq (m' := ([(2 ^ h + q) / 2 ^ (i + 1)] : List Nat).length) (cs' := ([(2 ^ h + q) / 2 ^ (i + 1)] : List Nat).flatMap intC) rfl rfl
    replace hM : Mem _ _ w4 [_, _] := hM.pick [1, 0] rfl
    obtain ⟨cq1, hq1⟩ := own_rd (hM.get 1 rfl)
    refine s_append hE rfl rfl hM sl35 (Src.rd Tryd.underlying35 hq1 (intCs_one _)) (len47 (by simp; omega)) (by simp; omega) (by intro X h; cases h) rfl ?_; clear hE a; intro a v35 w5 hE hM'; clear hM; have hM := hM'; clear hM'
    replace hM := Mem.ownRowsL (f := intC) (ls := (pathL (2 ^ h + q)).take i) (ms := ([(2 ^ h + q) / 2 ^ (i + 1)] : List Nat)) hM rfl rfl
    replace hM : Mem _ _ w5 [_] := hM.pick [0] rfl
    refine s_assign hE rfl rfl ?_; clear hE a; intro a hE
    refine q_nil ?_
    replace hE : Env a 37 [(0, _), (1, _), (4, _), (5, _), (6, _), (22, _), (29, _)] := hE.sel [0, 1, 4, 5, 6, 22, 29] rfl
    refine q_block_n ?_
    refine hK9 _ _ ?_
    refine wp_plain [true, true, true] rfl rfl ?_
    refine s_move hE rfl rfl ?_; clear hE a; intro a hE
    refine s_bin hE rfl rfl (bin_quo_nat (m := ((2 ^ h + q) / 2 ^ (i + 1))) (s := 2) (by decide) (wrap_i64 (by omega) (by omega))) rfl ?_; clear hE a; intro a hE
    refine s_assign hE rfl rfl ?_; clear hE a; intro a hE
    refine q_nil ?_
    replace hE : Env a 37 [(0, _), (1, _), (4, _), (5, _), (6, _), (22, _), (29, _)] := hE.sel [0, 1, 4, 5, 6, 22, 29] rfl
    replace hE := hE.cast 6 rfl (show _ = Value.int .i64 (((2 ^ h + q) / 2 ^ ((i + 1) + 1) : Nat) : Int) from (by rw [div_step (2 ^ h + q) (i + 1)]))
    replace hM := Mem.ownRowsEq (f := intC) (ls := ((pathL (2 ^ h + q)).take i) ++ ([(2 ^ h + q) / 2 ^ (i + 1)] : List Nat)) (ms := (pathL (2 ^ h + q)).take (i + 1)) hM ((pathL_snoc hone).symm)
    replace hM : Mem _ _ w5 [_] := hM.pick [0] rfl
    exact ⟨i + 1, ⟨by omega, _, hE.sel [0, 1, 4, 5, 6, 22] rfl, hM⟩, by omega⟩
  · replace hE := hE'; clear hE'
    replace hb29 := of_decide_eq_false hb29
    replace hb29 : ¬ (1 ≤ ((2 ^ h + q) / 2 ^ (i + 1))) := by omega
    have hie : i = h := path_end hq hi (by omega)
    refine wp_cond_false (hE.eval rfl) ?_
    refine wp_exit ?_
    refine q_then_e ?_
    refine q_then_e ?_
    refine q_block_x ?_
    refine hK5 _ _ ?_
    refine wp_seq_k (fun K9 hK9 => ?_)
    refine wp_plain [true, true] rfl rfl ?_
    refine s_move hE rfl rfl ?_; clear hE a; intro a hE
    refine s_assign hE rfl rfl ?_; clear hE a; intro a hE
    refine q_nil ?_
    replace hE : Env a 37 [(0, _), (1, _), (4, _), (5, _), (6, _), (22, _), (29, _)] := hE.sel [0, 1, 4, 5, 6, 22, 29] rfl
    refine hK9 _ _ ?_
    refine wp_ret ?_
    refine f_ret1 hE rfl rfl ?_
    replace hM := Mem.ownRowsEq (f := intC) (ls := (pathL (2 ^ h + q)).take i) (ms := pathL (2 ^ h + q)) hM (by rw [hie]; exact path_all hq)
    exact ⟨_, (by first | rfl | (simp; done)), hM.pick [0] rfl⟩
theorem rpath_no1 (y : Int) (z : Int) (w : World) (hh : ¬ (1 ≤ y ∧ y ≤ 12)) : Calls Tryd.prog 20 #[.int .i64 y, .int .i64 z] w fun e w' => ∃ v'0, e = .returned (v'0) ∧ Mem w [] w' [own v'0 1 (([] : List Nat).length) (([] : List Nat).flatMap intC)] := by
  have hM := Mem.start0 w
  refine f_enter 37 Tryd.func20 rfl rfl rfl ?_
  intro a hE
  replace hE : Env a 37 [(0, _), (1, _)] := hE
  refine wp_seq_k (fun K1 hK1 => ?_)
  refine wp_plain [true] rfl rfl ?_
  refine s_assign hE rfl rfl ?_; clear hE a; intro a hE
  refine q_nil ?_
  refine hK1 _ _ ?_
  refine wp_seq_k (fun K2 hK2 => ?_)
  refine wp_seq_k (fun K3 hK3 => ?_)
  refine wp_plain [true, true, true, true, true, true, true, true, true, true, true, true, true, false, true, true] rfl rfl ?_
  refine s_move hE rfl rfl ?_; clear hE a; intro a hE
  refine s_bin hE rfl rfl bin_lss rfl ?_; clear hE a; intro a hE
  refine s_move hE rfl rfl ?_; clear hE a; intro a hE
  refine hE.split 9 rfl (fun hb9 hE' => ?_) (fun hb9 hE' => ?_)
  · replace hE := hE'; clear hE'
    replace hb9 := of_decide_eq_true hb9
    refine g_no (b := true) hE rfl rfl rfl ?_; clear hE a; intro a hE
    refine g_no (b := true) hE rfl rfl rfl ?_; clear hE a; intro a hE
    refine s_pickt hE rfl rfl rfl ?_; clear hE a; intro a hE
    refine s_move hE rfl rfl ?_; clear hE a; intro a hE
    refine g_no (b := true) hE rfl rfl rfl ?_; clear hE a; intro a hE
    refine g_no (b := true) hE rfl rfl rfl ?_; clear hE a; intro a hE
    refine s_pickt hE rfl rfl rfl ?_; clear hE a; intro a hE
    refine s_move hE rfl rfl ?_; clear hE a; intro a hE
    refine g_no (b := true) hE rfl rfl rfl ?_; clear hE a; intro a hE
    refine g_no (b := true) hE rfl rfl rfl ?_; clear hE a; intro a hE
    refine g_no (b := true) hE rfl rfl rfl ?_; clear hE a; intro a hE
    refine g_no (b := true) hE rfl rfl rfl ?_; clear hE a; intro a hE
    refine s_pickt hE rfl rfl rfl ?_; clear hE a; intro a hE
    refine q_nil ?_
    replace hE : Env a 37 [(0, _), (1, _), (4, _), (22, _)] := hE.sel [0, 1, 4, 22] rfl
    refine hK3 _ _ ?_
    refine wp_cond_true (hE.eval rfl) ?_
    refine wp_seq_k (fun K4 hK4 => ?_)
    refine wp_plain [true] rfl rfl ?_
    refine s_assign hE rfl rfl ?_; clear hE a; intro a hE
    refine q_nil ?_
    refine hK4 _ _ ?_
    refine wp_ret ?_
    refine q_then_r ?_
    refine f_ret1 hE rfl rfl ?_
    replace hM := hM.addNil 1
    replace hM := hM.ownEq (m' := ([] : List Nat).length) (cs' := ([] : List Nat).flatMap intC) rfl rfl
    exact ⟨_, (by first | rfl | (simp; done)), hM.pick [0] rfl⟩
  · replace hE := hE'; clear hE'
    replace hb9 := of_decide_eq_false hb9
    refine g_yes hE rfl rfl ?_
    refine s_move hE rfl rfl ?_; clear hE a; intro a hE
    refine g_yes hE rfl rfl ?_
    refine s_bin hE rfl rfl bin_gtr rfl ?_; clear hE a; intro a hE
    refine s_pickf hE rfl rfl rfl ?_; clear hE a; intro a hE
    refine s_move hE rfl rfl ?_; clear hE a; intro a hE
    replace hE := hE.cast 13 rfl (show _ = Value.bool true from (congrArg Value.bool (decide_eq_true (by omega))))
    refine g_no (b := true) hE rfl rfl rfl ?_; clear hE a; intro a hE
    refine g_no (b := true) hE rfl rfl rfl ?_; clear hE a; intro a hE
    refine s_pickt hE rfl rfl rfl ?_; clear hE a; intro a hE
    refine s_move hE rfl rfl ?_; clear hE a; intro a hE
    refine g_no (b := true) hE rfl rfl rfl ?_; clear hE a; intro a hE
    refine g_no (b := true) hE rfl rfl rfl ?_; clear hE a; intro a hE
    refine g_no (b := true) hE rfl rfl rfl ?_; clear hE a; intro a hE
    refine g_no (b := true) hE rfl rfl rfl ?_; clear hE a; intro a hE
    refine s_pickt hE rfl rfl rfl ?_; clear hE a; intro a hE
    refine q_nil ?_
    replace hE : Env a 37 [(0, _), (1, _), (4, _), (22, _)] := hE.sel [0, 1, 4, 22] rfl
    refine hK3 _ _ ?_
    refine wp_cond_true (hE.eval rfl) ?_
    refine wp_seq_k (fun K4 hK4 => ?_)
    refine wp_plain [true] rfl rfl ?_
    refine s_assign hE rfl rfl ?_; clear hE a; intro a hE
    refine q_nil ?_
    refine hK4 _ _ ?_
    refine wp_ret ?_
    refine q_then_r ?_
    refine f_ret1 hE rfl rfl ?_
    replace hM := hM.addNil 1
    replace hM := hM.ownEq (m' := ([] : List Nat).length) (cs' := ([] : List Nat).flatMap intC) rfl rfl
    exact ⟨_, (by first | rfl | (simp; done)), hM.pick [0] rfl⟩
theorem rpath_no2 (h : Nat) (z : Int) (w : World) (hh : 1 ≤ h ∧ h ≤ 12) (hz : ¬ inN 0 (2 ^ h) z) : Calls Tryd.prog 20 #[.int .i64 (h : Int), .int .i64 z] w fun e w' => ∃ v'0, e = .returned (v'0) ∧ Mem w [] w' [own v'0 1 (([] : List Nat).length) (([] : List Nat).flatMap intC)] := by
  have hpw := two_pow_le hh
  have hpw1 := hpw.1
  have hpw2 := hpw.2
  have hM := Mem.start0 w
  refine f_enter 37 Tryd.func20 rfl rfl rfl ?_
  intro a hE
  replace hE : Env a 37 [(0, _), (1, _)] := hE
  refine wp_seq_k (fun K1 hK1 => ?_)
  refine wp_plain [true] rfl rfl ?_
  refine s_assign hE rfl rfl ?_; clear hE a; intro a hE
  refine q_nil ?_
  refine hK1 _ _ ?_
  refine wp_seq_k (fun K2 hK2 => ?_)
  refine wp_seq_k (fun K3 hK3 => ?_)
  refine wp_plain [true, true, true, true, true, true, true, true, true, true, true, true, true, false, true, true] rfl rfl ?_
  refine s_move hE rfl rfl ?_; clear hE a; intro a hE
  refine s_bin hE rfl rfl bin_lss rfl ?_; clear hE a; intro a hE
  refine s_move hE rfl rfl ?_; clear hE a; intro a hE
  replace hE := hE.cast 9 rfl (show _ = Value.bool false from (congrArg Value.bool (decide_eq_false (by omega))))
  refine g_yes hE rfl rfl ?_
  refine s_move hE rfl rfl ?_; clear hE a; intro a hE
  refine g_yes hE rfl rfl ?_
  refine s_bin hE rfl rfl bin_gtr rfl ?_; clear hE a; intro a hE
  refine s_pickf hE rfl rfl rfl ?_; clear hE a; intro a hE
  refine s_move hE rfl rfl ?_; clear hE a; intro a hE
  replace hE := hE.cast 13 rfl (show _ = Value.bool false from (congrArg Value.bool (decide_eq_false (by omega))))
  refine g_yes hE rfl rfl ?_
  refine s_move hE rfl rfl ?_; clear hE a; intro a hE
  refine g_yes hE rfl rfl ?_
  refine s_bin hE rfl rfl bin_lss rfl ?_; clear hE a; intro a hE
  refine s_pickf hE rfl rfl rfl ?_; clear hE a; intro a hE
  refine s_move hE rfl rfl ?_; clear hE a; intro a hE
  refine hE.split 17 rfl (fun hb17 hE' => ?_) (fun hb17 hE' => ?_)
  · replace hE := hE'; clear hE'
    replace hb17 := of_decide_eq_true hb17
    refine g_no (b := true) hE rfl rfl rfl ?_; clear hE a; intro a hE
    refine g_no (b := true) hE rfl rfl rfl ?_; clear hE a; intro a hE
    refine g_no (b := true) hE rfl rfl rfl ?_; clear hE a; intro a hE
    refine g_no (b := true) hE rfl rfl rfl ?_; clear hE a; intro a hE
    refine s_pickt hE rfl rfl rfl ?_; clear hE a; intro a hE
    refine q_nil ?_
    replace hE : Env a 37 [(0, _), (1, _), (4, _), (22, _)] := hE.sel [0, 1, 4, 22] rfl
    refine hK3 _ _ ?_
    refine wp_cond_true (hE.eval rfl) ?_
    refine wp_seq_k (fun K4 hK4 => ?_)
    refine wp_plain [true] rfl rfl ?_
    refine s_assign hE rfl rfl ?_; clear hE a; intro a hE
    refine q_nil ?_
    refine hK4 _ _ ?_
    refine wp_ret ?_
    refine q_then_r ?_
    refine f_ret1 hE rfl rfl ?_
    replace hM := hM.addNil 1
    replace hM := hM.ownEq (m' := ([] : List Nat).length) (cs' := ([] : List Nat).flatMap intC) rfl rfl
    exact ⟨_, (by first | rfl | (simp; done)), hM.pick [0] rfl⟩
  · replace hE := hE'; clear hE'
    replace hb17 := of_decide_eq_false hb17
    refine g_yes hE rfl rfl ?_
    refine s_move hE rfl rfl ?_; clear hE a; intro a hE
    refine g_yes hE rfl rfl ?_
    refine s_move hE rfl rfl ?_; clear hE a; intro a hE
    refine g_yes hE rfl rfl ?_
    refine s_call hE rfl Tryd.call36 (power_c h _ (by first | omega | assumption | (simp; done) | (simp; omega) | decide)) rfl ?_
    rintro e w1 ⟨rfl, hN⟩
    refine ⟨_, rfl, trivial, ?_⟩; clear hE a; intro a hE
    replace hM : Mem _ _ w1 [] := hM.call0 hN trivial; clear hN
    refine g_yes hE rfl rfl ?_
    refine s_bin hE rfl rfl bin_geq rfl ?_; clear hE a; intro a hE
    refine s_pickf hE rfl rfl rfl ?_; clear hE a; intro a hE
    refine q_nil ?_
    replace hE : Env a 37 [(0, _), (1, _), (4, _), (22, _)] := hE.sel [0, 1, 4, 22] rfl
    refine hK3 _ _ ?_
    replace hE := hE.cast 22 rfl (show _ = Value.bool true from (congrArg Value.bool (decide_eq_true (by omega))))
    refine wp_cond_true (hE.eval rfl) ?_
    refine wp_seq_k (fun K4 hK4 => ?_)
    refine wp_plain [true] rfl rfl ?_
    refine s_assign hE rfl rfl ?_; clear hE a; intro a hE
    refine q_nil ?_
    refine hK4 _ _ ?_
    refine wp_ret ?_
    refine q_then_r ?_
    refine f_ret1 hE rfl rfl ?_
    replace hM := hM.addNil 1
    replace hM := hM.ownEq (m' := ([] : List Nat).length) (cs' := ([] : List Nat).flatMap intC) rfl rfl
    exact ⟨_, (by first | rfl | (simp; done)), hM.pick [0] rfl⟩
theorem rpathI_c (y z : Int) (w : World) : Calls Tryd.prog 20 #[.int .i64 y, .int .i64 z] w fun e w' => ∃ u, e = .returned u ∧ Mem w [] w' [own u 1 (pathZ y z).length ((pathZ y z).flatMap intC)] := by
  by_cases hh : 1 ≤ y ∧ y ≤ 12
  · obtain ⟨h, rfl⟩ : ∃ h : Nat, y = (h : Int) := ⟨y.toNat, by omega⟩
    have hh' : 1 ≤ h ∧ h ≤ 12 := by omega
    by_cases hz : inN 0 (2 ^ h) z
    · obtain ⟨q, rfl⟩ : ∃ q : Nat, z = (q : Int) := ⟨z.toNat, by omega⟩
      rw [pathZ_in hh' hz]
      exact rpath_c h q w hh' (by omega)
    · rw [pathZ_out2 hz]
      exact rpath_no2 h z w hh' hz
  · rw [pathZ_out1 hh]
    exact rpath_no1 y z w hh
theorem qtag_c (b h : Nat) (k : List UInt8) (v : Value) (l : List (List UInt8)) (c : Nat) (j : Nat) (w : World) (hB : (blk b [bv k, [.int .i64 ((h : Nat) : Int)], [v]] [32, 1, 1] 86).holds w) (hS : (rd v 32 l.length c (l.flatMap bv)).holds w) (hl_k : k.length = 32) (ho_l : ∀ x, x ∈ l → x.length = 32) (hh : 1 ≤ h ∧ h ≤ 12) (hn : l.length = 2 ^ h) (hj : 1 ≤ j ∧ j < 2 * 2 ^ h) : Calls Tryd.prog 23 #[.pointer (some ⟨b, 0, none⟩), .int .i64 (j : Int)] w fun e w' => e = .returned (.tuple #[.agg (bv (gT (allT k (2 ^ h) l) j)).toArray, .int .i64 0]) ∧ Mem w [] w' [] := by
  have hpw := two_pow_le hh
  have hpw1 := hpw.1
  have hpw2 := hpw.2
  have hal := allT_len (k := k) (n := 2 ^ h) (lv := l) (by omega)
  have hM : Mem w [] w [blkR b [bv k, [.int .i64 ((h : Nat) : Int)], [v]] [32, 1, 1] 86, rd v 32 l.length c (l.flatMap bv)] := Mem.startR w (fun g hg => by
    simp only [List.mem_cons, List.not_mem_nil, or_false] at hg
    rcases hg with rfl | rfl
    · exact ⟨hB, rfl⟩
    · exact ⟨hS, rfl⟩)
  refine f_enter 26 Tryd.func23 rfl rfl rfl ?_
  intro a hE
  replace hE : Env a 26 [(0, _), (1, _)] := hE
  refine wp_seq_k (fun K1 hK1 => ?_)
  refine wp_plain [false, true] rfl rfl ?_
  refine s_alloc [32] hE hM zero34 rfl rfl ?_; clear hE a; intro a b4 w1 hE hM'
  clear hM; have hM := hM'; clear hM'
  refine s_assign hE rfl rfl ?_; clear hE a; intro a hE
  refine q_nil ?_
  refine hK1 _ _ ?_
  refine wp_seq_k (fun K2 hK2 => ?_)
  refine wp_seq_k (fun K3 hK3 => ?_)
  refine wp_plain [true, true, true, true, true, true, true, true, false, true, true, true] rfl rfl ?_
  refine s_move hE rfl rfl ?_; clear hE a; intro a hE
  refine s_bin hE rfl rfl bin_lss rfl ?_; clear hE a; intro a hE
  refine s_move hE rfl rfl ?_; clear hE a; intro a hE
  replace hE := hE.cast 9 rfl (show _ = Value.bool false from (congrArg Value.bool (decide_eq_false (by omega))))
  refine g_yes hE rfl rfl ?_
  refine s_move hE rfl rfl ?_; clear hE a; intro a hE
  refine g_yes hE rfl rfl ?_
  refine s_move hE rfl rfl ?_; clear hE a; intro a hE
  refine g_yes hE rfl rfl ?_
  refine s_nilCheck hE rfl rfl ?_; clear hE a; intro a hE
  refine g_yes hE rfl rfl ?_
  refine s_fieldAddr hE rfl fo86_1 rfl ?_; clear hE a; intro a hE
  refine g_yes hE rfl rfl ?_
  refine s_load1 hE rfl (blkR_blk (hM.get 1 rfl)) rfl one3 (by intro X h; cases h) rfl ?_; clear hE a; intro a hE
  refine g_yes hE rfl rfl ?_
  refine s_call hE rfl Tryd.call36 (power_c h _ (by first | omega | assumption | (simp; done) | (simp; omega) | decide)) rfl ?_
  rintro e w2 ⟨rfl, hN⟩
  refine ⟨_, rfl, trivial, ?_⟩; clear hE a; intro a hE
  replace hM : Mem _ _ w2 [_, _, _] := hM.call0 hN trivial; clear hN
  refine g_yes hE rfl rfl ?_
  refine s_bin hE rfl rfl (show Bin _ _ _ _ _ (.int .i64 ((2 * (2 ^ h) : Nat) : Int)) from bin_mul (by rw [wrap_i64 (by omega) (by omega)]; omega)) rfl ?_; clear hE a; intro a hE
  refine g_yes hE rfl rfl ?_
  refine s_bin hE rfl rfl bin_geq rfl ?_; clear hE a; intro a hE
  refine s_pickf hE rfl rfl rfl ?_; clear hE a; intro a hE
  refine q_nil ?_
  replace hE : Env a 26 [(0, _), (1, _), (4, _), (5, _), (18, _)] := hE.sel [0, 1, 4, 5, 18] rfl
  refine hK3 _ _ ?_
  replace hE := hE.cast 18 rfl (show _ = Value.bool false from (congrArg Value.bool (decide_eq_false (by omega))))
  refine wp_cond_false (hE.eval rfl) ?_
  refine wp_skip ?_
  refine hK2 _ _ ?_
  refine wp_seq_k (fun K4 hK4 => ?_)
  refine wp_plain [true, false, true] rfl rfl ?_
  refine s_move hE rfl rfl ?_; clear hE a; intro a hE
  refine s_call hE rfl Tryd.call39 (rall_c b h k v l c _ (blkR_blk (hM.get 1 rfl)) (hM.get 2 rfl) hl_k ho_l hh hn) rfl ?_
  rintro e w3 ⟨v21, rfl, hN⟩
  refine ⟨_, rfl, trivial, ?_⟩; clear hE a; intro a hE
  replace hM : Mem _ _ w3 [_, _, _, _] := hM.call0 hN ⟨rfl, trivial⟩; clear hN
  refine s_assign hE rfl rfl ?_; clear hE a; intro a hE
  refine q_nil ?_
  replace hE : Env a 26 [(0, _), (1, _), (4, _), (5, _), (6, _), (18, _)] := hE.sel [0, 1, 4, 5, 6, 18] rfl
  refine hK4 _ _ ?_
  refine wp_seq_k (fun K5 hK5 => ?_)
  refine wp_plain [true, true, true, true, false, true] rfl rfl ?_
  refine s_move hE rfl rfl ?_; clear hE a; intro a hE
  refine s_move hE rfl rfl ?_; clear hE a; intro a hE
  obtain ⟨cx24, hx24⟩ := own_rd (hM.get 0 rfl)
  refine s_indexRd (j := j) hE rfl hx24 rfl slt24 (by first | rfl | omega) (by first | (rw [hal]; omega) | omega) rfl ?_; clear hE a; intro a p24 hE hc24 hp24
  have hlj24 : j < (allT k (2 ^ h) l).length := (by first | (rw [hal]; omega) | omega)
  have hok24 := (OkTs.all ho_l) _ (getD_mem (d := zTg) hlj24)
  rw [flat_elem (d := zTg) (fun x hx => ((bv_length _).trans ((OkTs.all ho_l) x hx))) hlj24] at hc24
  refine s_loadAtN hE rfl hc24 (by rw [((bv_length _).trans hok24)]; exact row34) (by intro X h; cases h) rfl ?_; clear hE a; intro a hE
  replace hE := hE.cast 25 rfl (show _ = Value.agg (bv ((allT k (2 ^ h) l).getD j zTg)).toArray from rfl)
  replace hM : Mem _ _ w3 [_, _, _, _] := hM.pick [1, 0, 2, 3] rfl
  refine s_storeSeg 0 hE rfl rfl hM rfl sz34 ((bv_length _).trans hok24) (bv_one _) rfl ((bv_length _).trans (by first | (simp; done) | (simp [*]; done) | (simp; omega))) rfl (by intro X h; cases h) ?_; intro w4 hM'; clear hM; have hM := hM'; clear hM'
  simp only [List.set_cons_zero, List.set_cons_succ] at hM
  refine s_assign hE rfl rfl ?_; clear hE a; intro a hE
  refine q_nil ?_
  replace hE : Env a 26 [(0, _), (1, _), (4, _), (5, _), (18, _)] := hE.sel [0, 1, 4, 5, 18] rfl
  refine hK5 _ _ ?_
  refine wp_ret ?_
  refine f_ret2 hE rfl (res_cellN rfl (hM.get 0 rfl) row34 rfl) rfl ?_
  exact ⟨(by first | rfl | (simp; done)), hM.pick [] rfl⟩
theorem qtag_no (b h : Nat) (k : List UInt8) (v : Value) (l : List (List UInt8)) (c : Nat) (z : Int) (w : World) (hB : (blk b [bv k, [.int .i64 ((h : Nat) : Int)], [v]] [32, 1, 1] 86).holds w) (hS : (rd v 32 l.length c (l.flatMap bv)).holds w) (hl_k : k.length = 32) (ho_l : ∀ x, x ∈ l → x.length = 32) (hh : 1 ≤ h ∧ h ≤ 12) (hn : l.length = 2 ^ h) (hz : ¬ inN 1 (2 * 2 ^ h) z) : Calls Tryd.prog 23 #[.pointer (some ⟨b, 0, none⟩), .int .i64 z] w fun e w' => e = .returned (.tuple #[.agg (bv zTg).toArray, .int .i64 2]) ∧ Mem w [] w' [] := by
  have hpw := two_pow_le hh
  have hpw1 := hpw.1
  have hpw2 := hpw.2
  have hal := allT_len (k := k) (n := 2 ^ h) (lv := l) (by omega)
  have hM : Mem w [] w [blkR b [bv k, [.int .i64 ((h : Nat) : Int)], [v]] [32, 1, 1] 86, rd v 32 l.length c (l.flatMap bv)] := Mem.startR w (fun g hg => by
    simp only [List.mem_cons, List.not_mem_nil, or_false] at hg
    rcases hg with rfl | rfl
    · exact ⟨hB, rfl⟩
    · exact ⟨hS, rfl⟩)
  refine f_enter 26 Tryd.func23 rfl rfl rfl ?_
  intro a hE
  replace hE : Env a 26 [(0, _), (1, _)] := hE
  refine wp_seq_k (fun K1 hK1 => ?_)
  refine wp_plain [false, true] rfl rfl ?_
  refine s_alloc [32] hE hM zero34 rfl rfl ?_; clear hE a; intro a b4 w1 hE hM'
  clear hM; have hM := hM'; clear hM'
  refine s_assign hE rfl rfl ?_; clear hE a; intro a hE
  refine q_nil ?_
  refine hK1 _ _ ?_
  refine wp_seq_k (fun K2 hK2 => ?_)
  refine wp_seq_k (fun K3 hK3 => ?_)
  refine wp_plain [true, true, true, true, true, true, true, true, false, true, true, true] rfl rfl ?_
  refine s_move hE rfl rfl ?_; clear hE a; intro a hE
  refine s_bin hE rfl rfl bin_lss rfl ?_; clear hE a; intro a hE
  refine s_move hE rfl rfl ?_; clear hE a; intro a hE
  refine hE.split 9 rfl (fun hb9 hE' => ?_) (fun hb9 hE' => ?_)
  · replace hE := hE'; clear hE'
    replace hb9 := of_decide_eq_true hb9
    refine g_no (b := true) hE rfl rfl rfl ?_; clear hE a; intro a hE
    refine g_no (b := true) hE rfl rfl rfl ?_; clear hE a; intro a hE
    refine g_no (b := true) hE rfl rfl rfl ?_; clear hE a; intro a hE
    refine g_no (b := true) hE rfl rfl rfl ?_; clear hE a; intro a hE
    refine g_no (b := true) hE rfl rfl rfl ?_; clear hE a; intro a hE
    refine g_no (b := true) hE rfl rfl rfl ?_; clear hE a; intro a hE
    refine g_no (b := true) hE rfl rfl rfl ?_; clear hE a; intro a hE
    refine g_no (b := true) hE rfl rfl rfl ?_; clear hE a; intro a hE
    refine s_pickt hE rfl rfl rfl ?_; clear hE a; intro a hE
    refine q_nil ?_
    replace hE : Env a 26 [(0, _), (1, _), (4, _), (5, _), (18, _)] := hE.sel [0, 1, 4, 5, 18] rfl
    refine hK3 _ _ ?_
    refine wp_cond_true (hE.eval rfl) ?_
    refine wp_seq_k (fun K4 hK4 => ?_)
    refine wp_plain [true, false, true] rfl rfl ?_
    refine s_build (r := .agg (bv (List.replicate 32 (0 : UInt8))).toArray) _ hE rfl (fun w => by kernel_rfl) rfl ?_; clear hE a; intro a hE
    refine s_storeSeg 0 hE rfl rfl hM rfl sz34 ((bv_length _).trans (by first | (simp; done) | (simp [*]; done) | (simp; omega))) (bv_one _) rfl ((bv_length _).trans (by first | (simp; done) | (simp [*]; done) | (simp; omega))) rfl (by intro X h; cases h) ?_; intro w2 hM'; clear hM; have hM := hM'; clear hM'
    simp only [List.set_cons_zero, List.set_cons_succ] at hM
    refine s_assign hE rfl rfl ?_; clear hE a; intro a hE
    refine q_nil ?_
    replace hE : Env a 26 [(0, _), (1, _), (4, _), (5, _), (18, _)] := hE.sel [0, 1, 4, 5, 18] rfl
    refine hK4 _ _ ?_
    refine wp_ret ?_
    refine q_then_r ?_
    refine f_ret2 hE rfl (res_cellN rfl (hM.get 0 rfl) row34 rfl) rfl ?_
    exact ⟨(by first | rfl | (simp; done)), hM.pick [] rfl⟩
  · replace hE := hE'; clear hE'
    replace hb9 := of_decide_eq_false hb9
    refine g_yes hE rfl rfl ?_
    refine s_move hE rfl rfl ?_; clear hE a; intro a hE
    refine g_yes hE rfl rfl ?_
    refine s_move hE rfl rfl ?_; clear hE a; intro a hE
    refine g_yes hE rfl rfl ?_
    refine s_nilCheck hE rfl rfl ?_; clear hE a; intro a hE
    refine g_yes hE rfl rfl ?_
    refine s_fieldAddr hE rfl fo86_1 rfl ?_; clear hE a; intro a hE
    refine g_yes hE rfl rfl ?_
    refine s_load1 hE rfl (blkR_blk (hM.get 1 rfl)) rfl one3 (by intro X h; cases h) rfl ?_; clear hE a; intro a hE
    refine g_yes hE rfl rfl ?_
    refine s_call hE rfl Tryd.call36 (power_c h _ (by first | omega | assumption | (simp; done) | (simp; omega) | decide)) rfl ?_
    rintro e w2 ⟨rfl, hN⟩
    refine ⟨_, rfl, trivial, ?_⟩; clear hE a; intro a hE
    replace hM : Mem _ _ w2 [_, _, _] := hM.call0 hN trivial; clear hN
    refine g_yes hE rfl rfl ?_
    refine s_bin hE rfl rfl (show Bin _ _ _ _ _ (.int .i64 ((2 * (2 ^ h) : Nat) : Int)) from bin_mul (by rw [wrap_i64 (by omega) (by omega)]; omega)) rfl ?_; clear hE a; intro a hE
    refine g_yes hE rfl rfl ?_
    refine s_bin hE rfl rfl bin_geq rfl ?_; clear hE a; intro a hE
    refine s_pickf hE rfl rfl rfl ?_; clear hE a; intro a hE
    refine q_nil ?_
    replace hE : Env a 26 [(0, _), (1, _), (4, _), (5, _), (18, _)] := hE.sel [0, 1, 4, 5, 18] rfl
    refine hK3 _ _ ?_
    replace hE := hE.cast 18 rfl (show _ = Value.bool true from (congrArg Value.bool (decide_eq_true (by omega))))
    refine wp_cond_true (hE.eval rfl) ?_
    refine wp_seq_k (fun K4 hK4 => ?_)
    refine wp_plain [true, false, true] rfl rfl ?_
    refine s_build (r := .agg (bv (List.replicate 32 (0 : UInt8))).toArray) _ hE rfl (fun w => by kernel_rfl) rfl ?_; clear hE a; intro a hE
    refine s_storeSeg 0 hE rfl rfl hM rfl sz34 ((bv_length _).trans (by first | (simp; done) | (simp [*]; done) | (simp; omega))) (bv_one _) rfl ((bv_length _).trans (by first | (simp; done) | (simp [*]; done) | (simp; omega))) rfl (by intro X h; cases h) ?_; intro w3 hM'; clear hM; have hM := hM'; clear hM'
    simp only [List.set_cons_zero, List.set_cons_succ] at hM
    refine s_assign hE rfl rfl ?_; clear hE a; intro a hE
    refine q_nil ?_
    replace hE : Env a 26 [(0, _), (1, _), (4, _), (5, _), (18, _)] := hE.sel [0, 1, 4, 5, 18] rfl
    refine hK4 _ _ ?_
    refine wp_ret ?_
    refine q_then_r ?_
    refine f_ret2 hE rfl (res_cellN rfl (hM.get 0 rfl) row34 rfl) rfl ?_
    exact ⟨(by first | rfl | (simp; done)), hM.pick [] rfl⟩
theorem qtagI_c (b h : Nat) (k : List UInt8) (v : Value) (l : List (List UInt8)) (c : Nat) (z : Int) (w : World) (hB : (blk b [bv k, [.int .i64 (h : Int)], [v]] [32, 1, 1] 86).holds w) (hS : (rd v 32 l.length c (l.flatMap bv)).holds w) (hl_k : k.length = 32) (ho_l : ∀ x, x ∈ l → x.length = 32) (hh : 1 ≤ h ∧ h ≤ 12) (hn : l.length = 2 ^ h) : Calls Tryd.prog 23 #[.pointer (some ⟨b, 0, none⟩), .int .i64 z] w fun e w' => e = .returned (.tuple #[.agg (bv (tagZ (allT k (2 ^ h) l) (2 ^ h) z)).toArray, .int .i64 ((eZ 1 (2 * 2 ^ h) z : Nat) : Int)]) ∧ Mem w [] w' [] := by
  have hpw := two_pow_le hh
  have hpw2 := hpw.2
  by_cases hz : inN 1 (2 * 2 ^ h) z
  · obtain ⟨q, rfl⟩ : ∃ q : Nat, z = (q : Int) := ⟨z.toNat, by omega⟩
    rw [tagZ_in hz, eZ_in hz]
    exact qtag_c b h k v l c q w hB hS hl_k ho_l hh hn (by omega)
  · rw [tagZ_out hz, eZ_out hz]
    exact qtag_no b h k v l c z w hB hS hl_k ho_l hh hn hz
theorem rnodeq_c (b h : Nat) (k : List UInt8) (v : Value) (l : List (List UInt8)) (c : Nat) (j : Nat) (w : World) (hB : (blk b [bv k, [.int .i64 ((h : Nat) : Int)], [v]] [32, 1, 1] 86).holds w) (hS : (rd v 32 l.length c (l.flatMap bv)).holds w) (hl_k : k.length = 32) (ho_l : ∀ x, x ∈ l → x.length = 32) (hh : 1 ≤ h ∧ h ≤ 12) (hn : l.length = 2 ^ h) (hj : 1 ≤ j ∧ j < 2 ^ h) : Calls Tryd.prog 25 #[.pointer (some ⟨b, 0, none⟩), .int .i64 (j : Int)] w fun e w' => e = .returned (.tuple #[.agg (bv (secA (allT k (2 ^ h) l) j)).toArray, .int .i64 0]) ∧ Mem w [] w' [] := by
  have hpw := two_pow_le hh
  have hpw1 := hpw.1
  have hpw2 := hpw.2
  have hal := allT_len (k := k) (n := 2 ^ h) (lv := l) (by omega)
  have hM : Mem w [] w [blkR b [bv k, [.int .i64 ((h : Nat) : Int)], [v]] [32, 1, 1] 86, rd v 32 l.length c (l.flatMap bv)] := Mem.startR w (fun g hg => by
    simp only [List.mem_cons, List.not_mem_nil, or_false] at hg
    rcases hg with rfl | rfl
    · exact ⟨hB, rfl⟩
    · exact ⟨hS, rfl⟩)
  refine f_enter 33 Tryd.func25 rfl rfl rfl ?_
  intro a hE
  replace hE : Env a 33 [(0, _), (1, _)] := hE
  refine wp_seq_k (fun K1 hK1 => ?_)
  refine wp_plain [false, true] rfl rfl ?_
  refine s_alloc [64] hE hM zero52 rfl rfl ?_; clear hE a; intro a b4 w1 hE hM'
  clear hM; have hM := hM'; clear hM'
  refine s_assign hE rfl rfl ?_; clear hE a; intro a hE
  refine q_nil ?_
  refine hK1 _ _ ?_
  refine wp_seq_k (fun K2 hK2 => ?_)
  refine wp_seq_k (fun K3 hK3 => ?_)
  refine wp_plain [true, true, true, true, true, true, true, true, false, true, true] rfl rfl ?_
  refine s_move hE rfl rfl ?_; clear hE a; intro a hE
  refine s_bin hE rfl rfl bin_lss rfl ?_; clear hE a; intro a hE
  refine s_move hE rfl rfl ?_; clear hE a; intro a hE
  replace hE := hE.cast 9 rfl (show _ = Value.bool false from (congrArg Value.bool (decide_eq_false (by omega))))
  refine g_yes hE rfl rfl ?_
  refine s_move hE rfl rfl ?_; clear hE a; intro a hE
  refine g_yes hE rfl rfl ?_
  refine s_move hE rfl rfl ?_; clear hE a; intro a hE
  refine g_yes hE rfl rfl ?_
  refine s_nilCheck hE rfl rfl ?_; clear hE a; intro a hE
  refine g_yes hE rfl rfl ?_
  refine s_fieldAddr hE rfl fo86_1 rfl ?_; clear hE a; intro a hE
  refine g_yes hE rfl rfl ?_
  refine s_load1 hE rfl (blkR_blk (hM.get 1 rfl)) rfl one3 (by intro X h; cases h) rfl ?_; clear hE a; intro a hE
  refine g_yes hE rfl rfl ?_
  refine s_call hE rfl Tryd.call36 (power_c h _ (by first | omega | assumption | (simp; done) | (simp; omega) | decide)) rfl ?_
  rintro e w2 ⟨rfl, hN⟩
  refine ⟨_, rfl, trivial, ?_⟩; clear hE a; intro a hE
  replace hM : Mem _ _ w2 [_, _, _] := hM.call0 hN trivial; clear hN
  refine g_yes hE rfl rfl ?_
  refine s_bin hE rfl rfl bin_geq rfl ?_; clear hE a; intro a hE
  refine s_pickf hE rfl rfl rfl ?_; clear hE a; intro a hE
  refine q_nil ?_
  replace hE : Env a 33 [(0, _), (1, _), (4, _), (5, _), (17, _)] := hE.sel [0, 1, 4, 5, 17] rfl
  refine hK3 _ _ ?_
  replace hE := hE.cast 17 rfl (show _ = Value.bool false from (congrArg Value.bool (decide_eq_false (by omega))))
  refine wp_cond_false (hE.eval rfl) ?_
  refine wp_skip ?_
  refine hK2 _ _ ?_
  refine wp_seq_k (fun K4 hK4 => ?_)
  refine wp_plain [true, false, true] rfl rfl ?_
  refine s_move hE rfl rfl ?_; clear hE a; intro a hE
  refine s_call hE rfl Tryd.call39 (rall_c b h k v l c _ (blkR_blk (hM.get 1 rfl)) (hM.get 2 rfl) hl_k ho_l hh hn) rfl ?_
  rintro e w3 ⟨v20, rfl, hN⟩
  refine ⟨_, rfl, trivial, ?_⟩; clear hE a; intro a hE
  replace hM : Mem _ _ w3 [_, _, _, _] := hM.call0 hN ⟨rfl, trivial⟩; clear hN
  refine s_assign hE rfl rfl ?_; clear hE a; intro a hE
  refine q_nil ?_
  replace hE : Env a 33 [(0, _), (1, _), (4, _), (5, _), (6, _), (17, _)] := hE.sel [0, 1, 4, 5, 6, 17] rfl
  refine hK4 _ _ ?_
  refine wp_seq_k (fun K5 hK5 => ?_)
  refine wp_treeM hM (by kernel_rfl) (fun _ => True) (fun _ => True) (.re [(0, true), (1, true), (2, true), (3, true), (5, true), (6, true), (7, true), (8, true), (9, true), (4, true), (10, true), (11, false), (12, false), (13, true)] (.fl 9 (.weak (.fl 2 (.or 11 (.cut (.re [(12, false), (13, true)] (.fl 0 (.fl 0 (.weak (.or 12 (.cut (.re [(13, true)] (.weak (.leaf 1)))) (.stop))))))) (.stop)))))) [(0, true), (1, true), (2, true), (3, true), (5, true), (6, true), (7, true), (8, true), (9, true), (4, true), (10, true), (11, false), (12, false), (13, true)] [(2, [(3, 2), (4, 3), (11, 4), (12, 2), (13, 2)]), (3, [(4, 3), (11, 4), (12, 3), (13, 3)]), (4, [(11, 4), (12, 4), (13, 4)]), (7, [(8, 7), (9, 8), (10, 9), (11, 10), (12, 7), (13, 7)]), (8, [(9, 8), (10, 9), (11, 10), (12, 8), (13, 8)]), (9, [(10, 9), (11, 10), (12, 9), (13, 9)]), (10, [(11, 10), (12, 10), (13, 10)]), (11, [(12, 11), (13, 11)]), (12, [(13, 12)])] (by kernel_rfl) ?_
  intro w4 hM' hww4; clear hM; have hM := hM'; clear hM'
  refine o_re ?_
  refine o_fl rfl ?_
  refine s_move hE rfl rfl ?_; clear hE a; intro a hE
  refine s_move hE rfl rfl ?_; clear hE a; intro a hE
  refine s_bin hE rfl rfl (show Bin _ _ _ _ _ (.int .i64 ((2 * j : Nat) : Int)) from bin_mul (by rw [wrap_i64 (by omega) (by omega)]; omega)) rfl ?_; clear hE a; intro a hE
  obtain ⟨cx24, hx24⟩ := own_rd (hM.get 0 rfl)
  refine s_indexRd (j := 2 * j) hE rfl hx24 rfl slt24 (by first | rfl | omega) (by first | (rw [hal]; omega) | omega) rfl ?_; clear hE a; intro a p24 hE hc24 hp24
  have hlj24 : 2 * j < (allT k (2 ^ h) l).length := (by first | (rw [hal]; omega) | omega)
  have hok24 := (OkTs.all ho_l) _ (getD_mem (d := zTg) hlj24)
  rw [flat_elem (d := zTg) (fun x hx => ((bv_length _).trans ((OkTs.all ho_l) x hx))) hlj24] at hc24
  refine s_move hE rfl rfl ?_; clear hE a; intro a hE
  refine s_move hE rfl rfl ?_; clear hE a; intro a hE
  refine s_bin hE rfl rfl (show Bin _ _ _ _ _ (.int .i64 ((2 * j : Nat) : Int)) from bin_mul (by rw [wrap_i64 (by omega) (by omega)]; omega)) rfl ?_; clear hE a; intro a hE
  refine s_bin hE rfl rfl (show Bin _ _ _ _ _ (.int .i64 (((2 * j) + 1 : Nat) : Int)) from bin_add (by rw [wrap_i64 (by omega) (by omega)]; omega)) rfl ?_; clear hE a; intro a hE
  obtain ⟨cx30, hx30⟩ := own_rd (hM.get 0 rfl)
  refine s_indexRd (j := (2 * j) + 1) hE rfl hx30 rfl slt24 (by first | rfl | omega) (by first | (rw [hal]; omega) | omega) rfl ?_; clear hE a; intro a p30 hE hc30 hp30
  have hlj30 : (2 * j) + 1 < (allT k (2 ^ h) l).length := (by first | (rw [hal]; omega) | omega)
  have hok30 := (OkTs.all ho_l) _ (getD_mem (d := zTg) hlj30)
  rw [flat_elem (d := zTg) (fun x hx => ((bv_length _).trans ((OkTs.all ho_l) x hx))) hlj30] at hc30
  refine q_nil (q_nx ?_)
  refine o_weak (fun _ => False) (fun _ _ => trivial) ?_
  refine o_fl rfl ?_
  refine s_loadAtN hE rfl hc24 (by rw [((bv_length _).trans hok24)]; exact row34) (by intro X h; cases h; simp) rfl ?_; clear hE a; intro a hE
  replace hE := hE.cast 25 rfl (show _ = Value.agg (bv ((allT k (2 ^ h) l).getD (2 * j) zTg)).toArray from rfl)
  refine s_loadAtN hE rfl hc30 (by rw [((bv_length _).trans hok30)]; exact row34) (by intro X h; cases h; simp) rfl ?_; clear hE a; intro a hE
  replace hE := hE.cast 31 rfl (show _ = Value.agg (bv ((allT k (2 ^ h) l).getD ((2 * j) + 1) zTg)).toArray from rfl)
  refine q_nil (q_nx ?_)
  refine o_or rfl ?_ ?_
  · refine s_call hE rfl Tryd.call40 (rjoin_c ((allT k (2 ^ h) l).getD (2 * j) zTg) ((allT k (2 ^ h) l).getD ((2 * j) + 1) zTg) _ hok24 hok30) rfl ?_
    rintro e w5 ⟨rfl, hN⟩
    refine ⟨_, rfl, hN.sta0 _, ?_⟩; clear hE a; intro a hE
    replace hM : Mem _ _ w5 [_, _, _, _] := hM.call0 hN trivial; clear hN
    refine q_nil (q_nx ?_)
    refine o_cut (fun _ => True) ?_
    refine o_re ?_
    refine o_fl rfl ?_
    refine q_nil (q_nx ?_)
    refine o_fl rfl ?_
    refine q_nil (q_nx ?_)
    refine o_weak (fun b => b = b4) (fun _ _ => trivial) ?_
    refine o_or rfl ?_ ?_
    · replace hM : Mem _ _ w5 [_, _, _, _] := hM.pick [1, 0, 2, 3] rfl
      refine s_storeSeg 0 hE rfl rfl hM rfl sz52 ((bv_length _).trans (List.length_append.trans (congr (congrArg HAdd.hAdd hok24) hok30))) (bv_one _) rfl ((bv_length _).trans (by first | (simp; done) | (simp [*]; done) | (simp; omega))) rfl (by intro X h; cases h; rfl) ?_; intro w6 hM'; clear hM; have hM := hM'; clear hM'
      simp only [List.set_cons_zero, List.set_cons_succ] at hM
      refine q_nil (q_nx ?_)
      refine o_cut (fun _ => True) ?_
      refine o_re ?_
      refine o_weak (fun _ => False) (fun _ _ => trivial) ?_
      refine o_leaf rfl rfl ?_
      refine s_assign hE rfl rfl ?_; clear hE a; intro a hE
      refine q_nil (q_ph (q_nil ?_))
      replace hE : Env a 33 [(0, _), (1, _), (4, _), (5, _), (17, _)] := hE.sel [0, 1, 4, 5, 17] rfl
      refine hK5 _ _ ?_
      refine wp_ret ?_
      refine f_ret2 hE rfl (res_cellN rfl (hM.get 0 rfl) row52 rfl) rfl ?_
      exact ⟨(by first | rfl | (simp; done)), hM.pick [] rfl⟩
    trivial
  trivial
theorem rnodeq_no (b h : Nat) (k : List UInt8) (v : Value) (l : List (List UInt8)) (c : Nat) (z : Int) (w : World) (hB : (blk b [bv k, [.int .i64 ((h : Nat) : Int)], [v]] [32, 1, 1] 86).holds w) (hS : (rd v 32 l.length c (l.flatMap bv)).holds w) (hl_k : k.length = 32) (ho_l : ∀ x, x ∈ l → x.length = 32) (hh : 1 ≤ h ∧ h ≤ 12) (hn : l.length = 2 ^ h) (hz : ¬ inN 1 (2 ^ h) z) : Calls Tryd.prog 25 #[.pointer (some ⟨b, 0, none⟩), .int .i64 z] w fun e w' => e = .returned (.tuple #[.agg (bv zSc).toArray, .int .i64 2]) ∧ Mem w [] w' [] := by
  have hpw := two_pow_le hh
  have hpw1 := hpw.1
  have hpw2 := hpw.2
  have hal := allT_len (k := k) (n := 2 ^ h) (lv := l) (by omega)
  have hM : Mem w [] w [blkR b [bv k, [.int .i64 ((h : Nat) : Int)], [v]] [32, 1, 1] 86, rd v 32 l.length c (l.flatMap bv)] := Mem.startR w (fun g hg => by
    simp only [List.mem_cons, List.not_mem_nil, or_false] at hg
    rcases hg with rfl | rfl
    · exact ⟨hB, rfl⟩
    · exact ⟨hS, rfl⟩)
  refine f_enter 33 Tryd.func25 rfl rfl rfl ?_
  intro a hE
  replace hE : Env a 33 [(0, _), (1, _)] := hE
  refine wp_seq_k (fun K1 hK1 => ?_)
  refine wp_plain [false, true] rfl rfl ?_
  refine s_alloc [64] hE hM zero52 rfl rfl ?_; clear hE a; intro a b4 w1 hE hM'
  clear hM; have hM := hM'; clear hM'
  refine s_assign hE rfl rfl ?_; clear hE a; intro a hE
  refine q_nil ?_
  refine hK1 _ _ ?_
  refine wp_seq_k (fun K2 hK2 => ?_)
  refine wp_seq_k (fun K3 hK3 => ?_)
  refine wp_plain [true, true, true, true, true, true, true, true, false, true, true] rfl rfl ?_
  refine s_move hE rfl rfl ?_; clear hE a; intro a hE
  refine s_bin hE rfl rfl bin_lss rfl ?_; clear hE a; intro a hE
  refine s_move hE rfl rfl ?_; clear hE a; intro a hE
  refine hE.split 9 rfl (fun hb9 hE' => ?_) (fun hb9 hE' => ?_)
  · replace hE := hE'; clear hE'
    replace hb9 := of_decide_eq_true hb9
    refine g_no (b := true) hE rfl rfl rfl ?_; clear hE a; intro a hE
    refine g_no (b := true) hE rfl rfl rfl ?_; clear hE a; intro a hE
    refine g_no (b := true) hE rfl rfl rfl ?_; clear hE a; intro a hE
    refine g_no (b := true) hE rfl rfl rfl ?_; clear hE a; intro a hE
    refine g_no (b := true) hE rfl rfl rfl ?_; clear hE a; intro a hE
    refine g_no (b := true) hE rfl rfl rfl ?_; clear hE a; intro a hE
    refine g_no (b := true) hE rfl rfl rfl ?_; clear hE a; intro a hE
    refine s_pickt hE rfl rfl rfl ?_; clear hE a; intro a hE
    refine q_nil ?_
    replace hE : Env a 33 [(0, _), (1, _), (4, _), (5, _), (17, _)] := hE.sel [0, 1, 4, 5, 17] rfl
    refine hK3 _ _ ?_
    refine wp_cond_true (hE.eval rfl) ?_
    refine wp_seq_k (fun K4 hK4 => ?_)
    refine wp_plain [true, false, true] rfl rfl ?_
    refine s_build (r := .agg (bv (List.replicate 64 (0 : UInt8))).toArray) _ hE rfl (fun w => by kernel_rfl) rfl ?_; clear hE a; intro a hE
    refine s_storeSeg 0 hE rfl rfl hM rfl sz52 ((bv_length _).trans (by first | (simp; done) | (simp [*]; done) | (simp; omega))) (bv_one _) rfl ((bv_length _).trans (by first | (simp; done) | (simp [*]; done) | (simp; omega))) rfl (by intro X h; cases h) ?_; intro w2 hM'; clear hM; have hM := hM'; clear hM'
    simp only [List.set_cons_zero, List.set_cons_succ] at hM
    refine s_assign hE rfl rfl ?_; clear hE a; intro a hE
    refine q_nil ?_
    replace hE : Env a 33 [(0, _), (1, _), (4, _), (5, _), (17, _)] := hE.sel [0, 1, 4, 5, 17] rfl
    refine hK4 _ _ ?_
    refine wp_ret ?_
    refine q_then_r ?_
    refine f_ret2 hE rfl (res_cellN rfl (hM.get 0 rfl) row52 rfl) rfl ?_
    exact ⟨(by first | rfl | (simp; done)), hM.pick [] rfl⟩
  · replace hE := hE'; clear hE'
    replace hb9 := of_decide_eq_false hb9
    refine g_yes hE rfl rfl ?_
    refine s_move hE rfl rfl ?_; clear hE a; intro a hE
    refine g_yes hE rfl rfl ?_
    refine s_move hE rfl rfl ?_; clear hE a; intro a hE
    refine g_yes hE rfl rfl ?_
    refine s_nilCheck hE rfl rfl ?_; clear hE a; intro a hE
    refine g_yes hE rfl rfl ?_
    refine s_fieldAddr hE rfl fo86_1 rfl ?_; clear hE a; intro a hE
    refine g_yes hE rfl rfl ?_
    refine s_load1 hE rfl (blkR_blk (hM.get 1 rfl)) rfl one3 (by intro X h; cases h) rfl ?_; clear hE a; intro a hE
    refine g_yes hE rfl rfl ?_
    refine s_call hE rfl Tryd.call36 (power_c h _ (by first | omega | assumption | (simp; done) | (simp; omega) | decide)) rfl ?_
    rintro e w2 ⟨rfl, hN⟩
    refine ⟨_, rfl, trivial, ?_⟩; clear hE a; intro a hE
    replace hM : Mem _ _ w2 [_, _, _] := hM.call0 hN trivial; clear hN
    refine g_yes hE rfl rfl ?_
    refine s_bin hE rfl rfl bin_geq rfl ?_; clear hE a; intro a hE
    refine s_pickf hE rfl rfl rfl ?_; clear hE a; intro a hE
    refine q_nil ?_
    replace hE : Env a 33 [(0, _), (1, _), (4, _), (5, _), (17, _)] := hE.sel [0, 1, 4, 5, 17] rfl
    refine hK3 _ _ ?_
    replace hE := hE.cast 17 rfl (show _ = Value.bool true from (congrArg Value.bool (decide_eq_true (by omega))))
    refine wp_cond_true (hE.eval rfl) ?_
    refine wp_seq_k (fun K4 hK4 => ?_)
    refine wp_plain [true, false, true] rfl rfl ?_
    refine s_build (r := .agg (bv (List.replicate 64 (0 : UInt8))).toArray) _ hE rfl (fun w => by kernel_rfl) rfl ?_; clear hE a; intro a hE
    refine s_storeSeg 0 hE rfl rfl hM rfl sz52 ((bv_length _).trans (by first | (simp; done) | (simp [*]; done) | (simp; omega))) (bv_one _) rfl ((bv_length _).trans (by first | (simp; done) | (simp [*]; done) | (simp; omega))) rfl (by intro X h; cases h) ?_; intro w3 hM'; clear hM; have hM := hM'; clear hM'
    simp only [List.set_cons_zero, List.set_cons_succ] at hM
    refine s_assign hE rfl rfl ?_; clear hE a; intro a hE
    refine q_nil ?_
    replace hE : Env a 33 [(0, _), (1, _), (4, _), (5, _), (17, _)] := hE.sel [0, 1, 4, 5, 17] rfl
    refine hK4 _ _ ?_
    refine wp_ret ?_
    refine q_then_r ?_
    refine f_ret2 hE rfl (res_cellN rfl (hM.get 0 rfl) row52 rfl) rfl ?_
    exact ⟨(by first | rfl | (simp; done)), hM.pick [] rfl⟩
theorem rnodeI_c (b h : Nat) (k : List UInt8) (v : Value) (l : List (List UInt8)) (c : Nat) (z : Int) (w : World) (hB : (blk b [bv k, [.int .i64 (h : Int)], [v]] [32, 1, 1] 86).holds w) (hS : (rd v 32 l.length c (l.flatMap bv)).holds w) (hl_k : k.length = 32) (ho_l : ∀ x, x ∈ l → x.length = 32) (hh : 1 ≤ h ∧ h ≤ 12) (hn : l.length = 2 ^ h) : Calls Tryd.prog 25 #[.pointer (some ⟨b, 0, none⟩), .int .i64 z] w fun e w' => e = .returned (.tuple #[.agg (bv (nodeZ (allT k (2 ^ h) l) (2 ^ h) z)).toArray, .int .i64 ((eZ 1 (2 ^ h) z : Nat) : Int)]) ∧ Mem w [] w' [] := by
  have hpw := two_pow_le hh
  have hpw2 := hpw.2
  by_cases hz : inN 1 (2 ^ h) z
  · obtain ⟨q, rfl⟩ : ∃ q : Nat, z = (q : Int) := ⟨z.toNat, by omega⟩
    rw [nodeZ_in hz, eZ_in hz]
    exact rnodeq_c b h k v l c q w hB hS hl_k ho_l hh hn (by omega)
  · rw [nodeZ_out hz, eZ_out hz]
    exact rnodeq_no b h k v l c z w hB hS hl_k ho_l hh hn hz
theorem rproof_c (b h : Nat) (k : List UInt8) (v : Value) (l : List (List UInt8)) (c : Nat) (q : Nat) (w : World) (hB : (blk b [bv k, [.int .i64 ((h : Nat) : Int)], [v]] [32, 1, 1] 86).holds w) (hS : (rd v 32 l.length c (l.flatMap bv)).holds w) (hl_k : k.length = 32) (ho_l : ∀ x, x ∈ l → x.length = 32) (hh : 1 ≤ h ∧ h ≤ 12) (hn : l.length = 2 ^ h) (hq : q < 2 ^ h) : Calls Tryd.prog 26 #[.pointer (some ⟨b, 0, none⟩), .int .i64 (q : Int)] w fun e w' => ∃ v'0, e = .returned (.tuple #[v'0, .int .i64 0]) ∧ Mem w [] w' [own v'0 64 ((ownP (allT k (2 ^ h) l) (2 ^ h + q) h).length) ((ownP (allT k (2 ^ h) l) (2 ^ h + q) h).flatMap bv)] := by
  have hpw := two_pow_le hh
  have hpw1 := hpw.1
  have hpw2 := hpw.2
  have hal := allT_len (k := k) (n := 2 ^ h) (lv := l) (by omega)
  have hpl0 : (pathZ ((h : Nat) : Int) ((q : Nat) : Int)).length = h := path_len hh hq
  have hM : Mem w [] w [blkR b [bv k, [.int .i64 ((h : Nat) : Int)], [v]] [32, 1, 1] 86, rd v 32 l.length c (l.flatMap bv)] := Mem.startR w (fun g hg => by
    simp only [List.mem_cons, List.not_mem_nil, or_false] at hg
    rcases hg with rfl | rfl
    · exact ⟨hB, rfl⟩
    · exact ⟨hS, rfl⟩)
  refine f_enter 57 Tryd.func26 rfl rfl rfl ?_
  intro a hE
  replace hE : Env a 57 [(0, _), (1, _)] := hE
  refine wp_seq_k (fun K1 hK1 => ?_)
  refine wp_plain [true, true] rfl rfl ?_
  refine s_assign hE rfl rfl ?_; clear hE a; intro a hE
  refine s_assign hE rfl rfl ?_; clear hE a; intro a hE
  refine q_nil ?_
  refine hK1 _ _ ?_
  refine wp_seq_k (fun K2 hK2 => ?_)
  refine wp_seq_k (fun K3 hK3 => ?_)
  refine wp_plain [true, true, true, true, true, true, true, true, false, true, true] rfl rfl ?_
  refine s_move hE rfl rfl ?_; clear hE a; intro a hE
  refine s_bin hE rfl rfl bin_lss rfl ?_; clear hE a; intro a hE
  refine s_move hE rfl rfl ?_; clear hE a; intro a hE
  replace hE := hE.cast 12 rfl (show _ = Value.bool false from (congrArg Value.bool (decide_eq_false (by omega))))
  refine g_yes hE rfl rfl ?_
  refine s_move hE rfl rfl ?_; clear hE a; intro a hE
  refine g_yes hE rfl rfl ?_
  refine s_move hE rfl rfl ?_; clear hE a; intro a hE
  refine g_yes hE rfl rfl ?_
  refine s_nilCheck hE rfl rfl ?_; clear hE a; intro a hE
  refine g_yes hE rfl rfl ?_
  refine s_fieldAddr hE rfl fo86_1 rfl ?_; clear hE a; intro a hE
  refine g_yes hE rfl rfl ?_
  refine s_load1 hE rfl (blkR_blk (hM.get 0 rfl)) rfl one3 (by intro X h; cases h) rfl ?_; clear hE a; intro a hE
  refine g_yes hE rfl rfl ?_
  refine s_call hE rfl Tryd.call36 (power_c h _ (by first | omega | assumption | (simp; done) | (simp; omega) | decide)) rfl ?_
  rintro e w1 ⟨rfl, hN⟩
  refine ⟨_, rfl, trivial, ?_⟩; clear hE a; intro a hE
  replace hM : Mem _ _ w1 [_, _] := hM.call0 hN trivial; clear hN
  refine g_yes hE rfl rfl ?_
  refine s_bin hE rfl rfl bin_geq rfl ?_; clear hE a; intro a hE
  refine s_pickf hE rfl rfl rfl ?_; clear hE a; intro a hE
  refine q_nil ?_
  replace hE : Env a 57 [(0, _), (1, _), (4, _), (5, _), (20, _)] := hE.sel [0, 1, 4, 5, 20] rfl
  refine hK3 _ _ ?_
  replace hE := hE.cast 20 rfl (show _ = Value.bool false from (congrArg Value.bool (decide_eq_false (by omega))))
  refine wp_cond_false (hE.eval rfl) ?_
  refine wp_skip ?_
  refine hK2 _ _ ?_
  refine wp_seq_k (fun K4 hK4 => ?_)
  refine wp_plain [true, false, true] rfl rfl ?_
  refine s_move hE rfl rfl ?_; clear hE a; intro a hE
  refine s_call hE rfl Tryd.call39 (rall_c b h k v l c _ (blkR_blk (hM.get 0 rfl)) (hM.get 1 rfl) hl_k ho_l hh hn) rfl ?_
  rintro e w2 ⟨v22, rfl, hN⟩
  refine ⟨_, rfl, trivial, ?_⟩; clear hE a; intro a hE
  replace hM : Mem _ _ w2 [_, _, _] := hM.call0 hN ⟨rfl, trivial⟩; clear hN
  refine s_assign hE rfl rfl ?_; clear hE a; intro a hE
  refine q_nil ?_
  replace hE : Env a 57 [(0, _), (1, _), (4, _), (5, _), (6, _), (20, _)] := hE.sel [0, 1, 4, 5, 6, 20] rfl
  refine hK4 _ _ ?_
  refine wp_seq_k (fun K5 hK5 => ?_)
  refine wp_plain [true, true, true, true, true, false, true] rfl rfl ?_
  refine s_move hE rfl rfl ?_; clear hE a; intro a hE
  refine s_nilCheck hE rfl rfl ?_; clear hE a; intro a hE
  refine s_fieldAddr hE rfl fo86_1 rfl ?_; clear hE a; intro a hE
  refine s_load1 hE rfl (blkR_blk (hM.get 1 rfl)) rfl one3 (by intro X h; cases h) rfl ?_; clear hE a; intro a hE
  refine s_move hE rfl rfl ?_; clear hE a; intro a hE
  refine s_call hE rfl Tryd.call20 (rpathI_c ((h : Nat) : Int) ((q : Nat) : Int) _) rfl ?_
  rintro e w3 ⟨v28, rfl, hN⟩
  refine ⟨_, rfl, trivial, ?_⟩; clear hE a; intro a hE
  replace hM : Mem _ _ w3 [_, _, _, _] := hM.call0 hN ⟨rfl, trivial⟩; clear hN
  refine s_assign hE rfl rfl ?_; clear hE a; intro a hE
  refine q_nil ?_
  replace hE : Env a 57 [(0, _), (1, _), (4, _), (5, _), (6, _), (7, _), (20, _)] := hE.sel [0, 1, 4, 5, 6, 7, 20] rfl
  refine hK5 _ _ ?_
  refine wp_seq_k (fun K6 hK6 => ?_)
  refine wp_plain [true] rfl rfl ?_
  refine s_assign hE rfl rfl ?_; clear hE a; intro a hE
  refine q_nil ?_
  refine hK6 _ _ ?_
  refine wp_seq_k (fun K7 hK7 => ?_)
  refine wp_seq_k (fun K8 hK8 => ?_)
  refine wp_plain [true] rfl rfl ?_
  refine s_assign hE rfl rfl ?_; clear hE a; intro a hE
  refine q_nil ?_
  refine hK8 _ _ ?_
  refine wp_block ?_
  replace hM := hM.addNil 64
  replace hM := hM.ownEq (m' := ([] : List (List UInt8)).length) (cs' := ([] : List (List UInt8)).flatMap bv) rfl rfl
  replace hM := Mem.ownRowsEq (f := bv) (ls := ([] : List (List UInt8))) (ms := ((pathZ ((h : Nat) : Int) ((q : Nat) : Int)).take 0).map (secA (allT k (2 ^ h) l))) hM rfl
  refine c_loop (fun (i : Nat) a w' => i ≤ (pathZ ((h : Nat) : Int) ((q : Nat) : Int)).length ∧ ∃ vl8, Env a 57 [(0, .pointer (some ⟨b, 0, none⟩)), (1, .int .i64 ((q : Nat) : Int)), (4, .slice none 0 0), (5, .int .i64 0), (6, v22), (7, v28), (8, vl8), (9, .int .i64 ((i : Nat) : Int)), (20, .bool false)] ∧ Mem w [] w' [own vl8 64 ((((pathZ ((h : Nat) : Int) ((q : Nat) : Int)).take i).map (secA (allT k (2 ^ h) l))).length) ((((pathZ ((h : Nat) : Int) ((q : Nat) : Int)).take i).map (secA (allT k (2 ^ h) l))).flatMap bv), own v28 1 ((pathZ ((h : Nat) : Int) ((q : Nat) : Int)).length) ((pathZ ((h : Nat) : Int) ((q : Nat) : Int)).flatMap intC), own v22 32 ((allT k (2 ^ h) l).length) ((allT k (2 ^ h) l).flatMap bv), blkR b [bv k, [.int .i64 ((h : Nat) : Int)], [v]] [32, 1, 1] 86, rd v 32 l.length c (l.flatMap bv)]) (fun i => (pathZ ((h : Nat) : Int) ((q : Nat) : Int)).length - i) 0 ⟨Nat.zero_le _, _, hE.sel [0, 1, 4, 5, 6, 7, 8, 9, 20] rfl, hM⟩ ?_
  clear hE hM a; rintro i a w4 ⟨hi, vl8, hE, hM⟩
  refine wp_seq_k (fun K9 hK9 => ?_)
  refine wp_seq_k (fun K10 hK10 => ?_)
  refine wp_plain [true, true, true, true] rfl rfl ?_
  refine s_move hE rfl rfl ?_; clear hE a; intro a hE
  refine s_move hE rfl rfl ?_; clear hE a; intro a hE
  refine s_len hE rfl Tryd.underlying35 (own_slice (hM.get 1 rfl)) rfl ?_; clear hE a; intro a hE
  refine s_bin hE rfl rfl bin_lss rfl ?_; clear hE a; intro a hE
  refine q_nil ?_
  replace hE : Env a 57 [(0, _), (1, _), (4, _), (5, _), (6, _), (7, _), (8, _), (9, _), (20, _), (32, _)] := hE.sel [0, 1, 4, 5, 6, 7, 8, 9, 20, 32] rfl
  refine hK10 _ _ ?_
  refine hE.split 32 rfl (fun hb32 hE' => ?_) (fun hb32 hE' => ?_)
  · replace hE := hE'; clear hE'
    replace hb32 := of_decide_eq_true hb32
    replace hb32 : i < ((pathZ ((h : Nat) : Int) ((q : Nat) : Int)).length) := by omega
    replace hb32 : i < (pathZ ((h : Nat) : Int) ((q : Nat) : Int)).length := by omega
    refine wp_cond_true (hE.eval rfl) ?_
    refine wp_skip ?_
    refine hK9 _ _ ?_
    refine wp_seq_k (fun K11 hK11 => ?_)
    refine wp_block ?_
    refine wp_treeM hM (by kernel_rfl) (fun _ => True) (fun _ => True) (.re [(0, true), (1, true), (2, true), (3, true), (4, true), (9, true), (10, true), (11, true), (12, true), (5, true), (6, true), (7, true), (8, true), (13, true), (14, true), (15, true), (16, true), (17, true), (18, false), (19, false), (20, false), (21, true)] (.fl 9 (.weak (.fl 9 (.or 18 (.cut (.re [(19, false), (20, false), (21, true)] (.fl 0 (.fl 0 (.or 19 (.re [(20, false), (21, true)] (.fl 0 (.fl 0 (.weak (.or 20 (.cut (.re [(21, true)] (.weak (.leaf 1)))) (.stop)))))) (.stop)))))) (.stop)))))) [(0, true), (1, true), (2, true), (3, true), (4, true), (9, true), (10, true), (11, true), (12, true), (5, true), (6, true), (7, true), (8, true), (13, true), (14, true), (15, true), (16, true), (17, true), (18, false), (19, false), (20, false), (21, true)] [(4, [(5, 4), (6, 5), (7, 6), (8, 7), (18, 8), (19, 18), (20, 18), (21, 4)]), (5, [(6, 5), (7, 6), (8, 7), (18, 8), (19, 18), (20, 18), (21, 5)]), (6, [(7, 6), (8, 7), (18, 8), (19, 18), (20, 18), (21, 6)]), (7, [(8, 7), (18, 8), (19, 18), (20, 18), (21, 7)]), (8, [(18, 8), (19, 18), (20, 18), (21, 8)]), (12, [(13, 12), (14, 13), (15, 14), (16, 15), (17, 16), (18, 17), (19, 18), (20, 18), (21, 12)]), (13, [(14, 13), (15, 14), (16, 15), (17, 16), (18, 17), (19, 18), (20, 18), (21, 13)]), (14, [(15, 14), (16, 15), (17, 16), (18, 17), (19, 18), (20, 18), (21, 14)]), (15, [(16, 15), (17, 16), (18, 17), (19, 18), (20, 18), (21, 15)]), (16, [(17, 16), (18, 17), (19, 18), (20, 18), (21, 16)]), (17, [(18, 17), (19, 18), (20, 18), (21, 17)]), (18, [(19, 18), (20, 18), (21, 18)]), (19, [(20, 19), (21, 19)]), (20, [(21, 20)])] (by kernel_rfl) ?_
    intro w5 hM' hww5; clear hM; have hM := hM'; clear hM'
    refine o_re ?_
    refine o_fl rfl ?_
    refine s_move hE rfl rfl ?_; clear hE a; intro a hE
    refine s_move hE rfl rfl ?_; clear hE a; intro a hE
    refine s_move hE rfl rfl ?_; clear hE a; intro a hE
    refine s_move hE rfl rfl ?_; clear hE a; intro a hE
    obtain ⟨cx39, hx39⟩ := own_rd (hM.get 1 rfl)
    refine s_indexRd (j := i) hE rfl hx39 rfl slt35 (by first | rfl | omega) (by first | (rw [hal]; omega) | omega) rfl ?_; clear hE a; intro a p39 hE hc39 hp39
    have hlj39 : i < (pathZ ((h : Nat) : Int) ((q : Nat) : Int)).length := (by first | (rw [hal]; omega) | omega)
    have hok39 := pathZ_ok _ (getD_mem (d := 0) hlj39)
    rw [flat_elem (d := 0) (fun x hx => (show (intC _).length = 1 from rfl)) hlj39] at hc39
    refine s_move hE rfl rfl ?_; clear hE a; intro a hE
    refine s_move hE rfl rfl ?_; clear hE a; intro a hE
    refine s_move hE rfl rfl ?_; clear hE a; intro a hE
    obtain ⟨cx47, hx47⟩ := own_rd (hM.get 1 rfl)
    refine s_indexRd (j := i) hE rfl hx47 rfl slt35 (by first | rfl | omega) (by first | (rw [hal]; omega) | omega) rfl ?_; clear hE a; intro a p47 hE hc47 hp47
    have hlj47 : i < (pathZ ((h : Nat) : Int) ((q : Nat) : Int)).length := (by first | (rw [hal]; omega) | omega)
    have hok47 := pathZ_ok _ (getD_mem (d := 0) hlj47)
    rw [flat_elem (d := 0) (fun x hx => (show (intC _).length = 1 from rfl)) hlj47] at hc47
    refine q_nil (q_nx ?_)
    refine o_weak (fun _ => False) (fun _ _ => trivial) ?_
    refine o_fl rfl ?_
    replace hc39 : (cellsAt _ [.int .i64 ((((pathZ ((h : Nat) : Int) ((q : Nat) : Int)).getD i 0) : Nat) : Int)]).holds _ := hc39
    refine s_loadAt1 hE rfl hc39 one3 (by intro X h; cases h; simp) rfl ?_; clear hE a; intro a hE
    have hjb40 : (pathZ ((h : Nat) : Int) ((q : Nat) : Int)).getD i 0 < 2 ^ h := path_num hh hq (by omega)
    refine s_bin hE rfl rfl (show Bin _ _ _ _ _ (.int .i64 ((2 * ((pathZ ((h : Nat) : Int) ((q : Nat) : Int)).getD i 0) : Nat) : Int)) from bin_mul (by rw [wrap_i64 (by omega) (by omega)]; omega)) rfl ?_; clear hE a; intro a hE
    obtain ⟨cx42, hx42⟩ := own_rd (hM.get 2 rfl)
    refine s_indexRd (j := 2 * ((pathZ ((h : Nat) : Int) ((q : Nat) : Int)).getD i 0)) hE rfl hx42 rfl slt24 (by first | rfl | omega) (by first | (rw [hal]; omega) | omega) rfl ?_; clear hE a; intro a p42 hE hc42 hp42
    have hlj42 : 2 * ((pathZ ((h : Nat) : Int) ((q : Nat) : Int)).getD i 0) < (allT k (2 ^ h) l).length := (by first | (rw [hal]; omega) | omega)
    have hok42 := (OkTs.all ho_l) _ (getD_mem (d := zTg) hlj42)
    rw [flat_elem (d := zTg) (fun x hx => ((bv_length _).trans ((OkTs.all ho_l) x hx))) hlj42] at hc42
    refine s_loadAtN hE rfl hc42 (by rw [((bv_length _).trans hok42)]; exact row34) (by intro X h; cases h; simp) rfl ?_; clear hE a; intro a hE
    replace hE := hE.cast 43 rfl (show _ = Value.agg (bv ((allT k (2 ^ h) l).getD (2 * ((pathZ ((h : Nat) : Int) ((q : Nat) : Int)).getD i 0)) zTg)).toArray from rfl)
    replace hc47 : (cellsAt _ [.int .i64 ((((pathZ ((h : Nat) : Int) ((q : Nat) : Int)).getD i 0) : Nat) : Int)]).holds _ := hc47
    refine s_loadAt1 hE rfl hc47 one3 (by intro X h; cases h; simp) rfl ?_; clear hE a; intro a hE
    have hjb48 : (pathZ ((h : Nat) : Int) ((q : Nat) : Int)).getD i 0 < 2 ^ h := path_num hh hq (by omega)
    refine s_bin hE rfl rfl (show Bin _ _ _ _ _ (.int .i64 ((2 * ((pathZ ((h : Nat) : Int) ((q : Nat) : Int)).getD i 0) : Nat) : Int)) from bin_mul (by rw [wrap_i64 (by omega) (by omega)]; omega)) rfl ?_; clear hE a; intro a hE
    refine s_bin hE rfl rfl (show Bin _ _ _ _ _ (.int .i64 (((2 * ((pathZ ((h : Nat) : Int) ((q : Nat) : Int)).getD i 0)) + 1 : Nat) : Int)) from bin_add (by rw [wrap_i64 (by omega) (by omega)]; omega)) rfl ?_; clear hE a; intro a hE
    obtain ⟨cx51, hx51⟩ := own_rd (hM.get 2 rfl)
    refine s_indexRd (j := (2 * ((pathZ ((h : Nat) : Int) ((q : Nat) : Int)).getD i 0)) + 1) hE rfl hx51 rfl slt24 (by first | rfl | omega) (by first | (rw [hal]; omega) | omega) rfl ?_; clear hE a; intro a p51 hE hc51 hp51
    have hlj51 : (2 * ((pathZ ((h : Nat) : Int) ((q : Nat) : Int)).getD i 0)) + 1 < (allT k (2 ^ h) l).length := (by first | (rw [hal]; omega) | omega)
    have hok51 := (OkTs.all ho_l) _ (getD_mem (d := zTg) hlj51)
    rw [flat_elem (d := zTg) (fun x hx => ((bv_length _).trans ((OkTs.all ho_l) x hx))) hlj51] at hc51
    refine s_loadAtN hE rfl hc51 (by rw [((bv_length _).trans hok51)]; exact row34) (by intro X h; cases h; simp) rfl ?_; clear hE a; intro a hE
    replace hE := hE.cast 52 rfl (show _ = Value.agg (bv ((allT k (2 ^ h) l).getD ((2 * ((pathZ ((h : Nat) : Int) ((q : Nat) : Int)).getD i 0)) + 1) zTg)).toArray from rfl)
    refine q_nil (q_nx ?_)
    refine o_or rfl ?_ ?_
    · refine s_call hE rfl Tryd.call40 (rjoin_c ((allT k (2 ^ h) l).getD (2 * ((pathZ ((h : Nat) : Int) ((q : Nat) : Int)).getD i 0)) zTg) ((allT k (2 ^ h) l).getD ((2 * ((pathZ ((h : Nat) : Int) ((q : Nat) : Int)).getD i 0)) + 1) zTg) _ hok42 hok51) rfl ?_
      rintro e w6 ⟨rfl, hN⟩
      refine ⟨_, rfl, hN.sta0 _, ?_⟩; clear hE a; intro a hE
      replace hM : Mem _ _ w6 [_, _, _, _, _] := hM.call0 hN trivial; clear hN
      refine q_nil (q_nx ?_)
      refine o_cut (fun _ => True) ?_
      refine o_re ?_
      refine o_fl rfl ?_
      refine q_nil (q_nx ?_)
      refine o_fl rfl ?_
      refine q_nil (q_nx ?_)
      refine o_or rfl ?_ ?_
      · have hro54_0 : (((allT k (2 ^ h) l).getD (2 * ((pathZ ((h : Nat) : Int) ((q : Nat) : Int)).getD i 0)) zTg) ++ ((allT k (2 ^ h) l).getD ((2 * ((pathZ ((h : Nat) : Int) ((q : Nat) : Int)).getD i 0)) + 1) zTg)).length = 64 := (List.length_append.trans (congr (congrArg HAdd.hAdd hok42) hok51))
        refine s_buildSlice (xs := [.tmp 53]) (([((allT k (2 ^ h) l).getD (2 * ((pathZ ((h : Nat) : Int) ((q : Nat) : Int)).getD i 0)) zTg) ++ ((allT k (2 ^ h) l).getD ((2 * ((pathZ ((h : Nat) : Int) ((q : Nat) : Int)).getD i 0)) + 1) zTg)] : List (List UInt8)).flatMap bv) hE hM sl44 rfl rfl rfl (by intro v hv; simp only [List.mem_cons, List.not_mem_nil, or_false] at hv; rcases hv with rfl; exact ((bv_length _).trans hro54_0)) (by simp [Value.cells]) rfl rfl rfl ?_; clear hE a; intro a v54 w7 hE hM'
        clear hM; have hM := hM'; clear hM'
        replace hM := hM.ownEq (m' := ([((allT k (2 ^ h) l).getD (2 * ((pathZ ((h : Nat) : Int) ((q : Nat) : Int)).getD i 0)) zTg) ++ ((allT k (2 ^ h) l).getD ((2 * ((pathZ ((h : Nat) : Int) ((q : Nat) : Int)).getD i 0)) + 1) zTg)] : List (List UInt8)).length) (cs' := ([((allT k (2 ^ h) l).getD (2 * ((pathZ ((h : Nat) : Int) ((q : Nat) : Int)).getD i 0)) zTg) ++ ((allT k (2 ^ h) l).getD ((2 * ((pathZ ((h : Nat) : Int) ((q : Nat) : Int)).getD i 0)) + 1) zTg)] : List (List UInt8)).flatMap bv) rfl rfl
        refine q_nil (q_nx ?_)
        refine o_re ?_
        refine o_fl rfl ?_
        refine q_nil (q_nx ?_)
        refine o_fl rfl ?_
        refine q_nil (q_nx ?_)
        refine o_weak (fun b => b ∈ valBlocks vl8) (fun _ _ => trivial) ?_
        refine o_or rfl ?_ ?_
        · replace hM : Mem _ _ w7 [_, _, _, _, _, _] := hM.pick [1, 0, 2, 3, 4, 5] rfl
          obtain ⟨cq1, hq1⟩ := own_rd (hM.get 1 rfl)
          refine s_append hE rfl rfl hM sl44 (Src.rd Tryd.underlying44 hq1 (bvs_one _)) (len47 (by first | omega | (simp; done) | (simp; omega))) (by first | omega | (simp; done) | (simp; omega)) (by intro X h; cases h; exact fun _ hb => hb) rfl ?_; clear hE a; intro a v55 w8 hE hM'; clear hM; have hM := hM'; clear hM'
          replace hM := Mem.ownRowsL (f := bv) (ls := ((pathZ ((h : Nat) : Int) ((q : Nat) : Int)).take i).map (secA (allT k (2 ^ h) l))) (ms := ([((allT k (2 ^ h) l).getD (2 * ((pathZ ((h : Nat) : Int) ((q : Nat) : Int)).getD i 0)) zTg) ++ ((allT k (2 ^ h) l).getD ((2 * ((pathZ ((h : Nat) : Int) ((q : Nat) : Int)).getD i 0)) + 1) zTg)] : List (List UInt8))) hM rfl rfl
          replace hM : Mem _ _ w8 [_, _, _, _, _] := hM.pick [0, 2, 3, 4, 5] rfl
          refine q_nil (q_nx ?_)
          refine o_cut (fun _ => True) ?_
          refine o_re ?_
          refine o_weak (fun _ => False) (fun _ _ => trivial) ?_
          refine o_leaf rfl rfl ?_
          refine s_assign hE rfl rfl ?_; clear hE a; intro a hE
          refine q_nil (q_ph (q_nil ?_))
          replace hE : Env a 57 [(0, _), (1, _), (4, _), (5, _), (6, _), (7, _), (8, _), (9, _), (20, _), (32, _)] := hE.sel [0, 1, 4, 5, 6, 7, 8, 9, 20, 32] rfl
          refine q_block_n ?_
          refine hK11 _ _ ?_
          refine wp_plain [true, true, true] rfl rfl ?_
          refine s_move hE rfl rfl ?_; clear hE a; intro a hE
          refine s_bin hE rfl rfl (show Bin _ _ _ _ _ (.int .i64 ((i + 1 : Nat) : Int)) from bin_add (by rw [wrap_i64 (by omega) (by omega)]; omega)) rfl ?_; clear hE a; intro a hE
          refine s_assign hE rfl rfl ?_; clear hE a; intro a hE
          refine q_nil ?_
          replace hE : Env a 57 [(0, _), (1, _), (4, _), (5, _), (6, _), (7, _), (8, _), (9, _), (20, _), (32, _)] := hE.sel [0, 1, 4, 5, 6, 7, 8, 9, 20, 32] rfl
          replace hE := hE.cast 9 rfl (show _ = Value.int .i64 (((i + 1) : Nat) : Int) from (congrArg _ (by omega)))
          replace hM := Mem.ownRowsEq (f := bv) (ls := (((pathZ ((h : Nat) : Int) ((q : Nat) : Int)).take i).map (secA (allT k (2 ^ h) l))) ++ ([((allT k (2 ^ h) l).getD (2 * ((pathZ ((h : Nat) : Int) ((q : Nat) : Int)).getD i 0)) zTg) ++ ((allT k (2 ^ h) l).getD ((2 * ((pathZ ((h : Nat) : Int) ((q : Nat) : Int)).getD i 0)) + 1) zTg)] : List (List UInt8))) (ms := ((pathZ ((h : Nat) : Int) ((q : Nat) : Int)).take (i + 1)).map (secA (allT k (2 ^ h) l))) hM (map_snoc (by omega))
          replace hM : Mem _ _ w8 [_, _, _, _, _] := hM.pick [0, 1, 2, 3, 4] rfl
          exact ⟨i + 1, ⟨by omega, _, hE.sel [0, 1, 4, 5, 6, 7, 8, 9, 20] rfl, hM⟩, by omega⟩
        trivial
      trivial
    trivial
  · replace hE := hE'; clear hE'
    replace hb32 := of_decide_eq_false hb32
    replace hb32 : ¬ (i < ((pathZ ((h : Nat) : Int) ((q : Nat) : Int)).length)) := by omega
    obtain rfl : (pathZ ((h : Nat) : Int) ((q : Nat) : Int)).length = i := by omega
    refine wp_cond_false (hE.eval rfl) ?_
    refine wp_exit ?_
    refine q_then_e ?_
    refine q_then_e ?_
    refine q_block_x ?_
    refine hK7 _ _ ?_
    refine wp_seq_k (fun K11 hK11 => ?_)
    refine wp_plain [true, true, true] rfl rfl ?_
    refine s_move hE rfl rfl ?_; clear hE a; intro a hE
    refine s_assign hE rfl rfl ?_; clear hE a; intro a hE
    refine s_assign hE rfl rfl ?_; clear hE a; intro a hE
    refine q_nil ?_
    replace hE : Env a 57 [(0, _), (1, _), (4, _), (5, _), (6, _), (7, _), (8, _), (9, _), (20, _), (32, _)] := hE.sel [0, 1, 4, 5, 6, 7, 8, 9, 20, 32] rfl
    refine hK11 _ _ ?_
    refine wp_ret ?_
    refine f_ret2 hE rfl rfl rfl ?_
    replace hM := Mem.ownRowsEq (f := bv) (ls := ((pathZ ((h : Nat) : Int) ((q : Nat) : Int)).take ((pathZ ((h : Nat) : Int) ((q : Nat) : Int)).length)).map (secA (allT k (2 ^ h) l))) (ms := ownP (allT k (2 ^ h) l) (2 ^ h + q) h) hM (by rw [List.take_length, pathZ_in hh (by omega), ownP_path (by omega) (by omega)])
    exact ⟨_, (by first | rfl | (simp; done)), hM.pick [0] rfl⟩
theorem rproof_no (b h : Nat) (k : List UInt8) (v : Value) (l : List (List UInt8)) (c : Nat) (z : Int) (w : World) (hB : (blk b [bv k, [.int .i64 ((h : Nat) : Int)], [v]] [32, 1, 1] 86).holds w) (hS : (rd v 32 l.length c (l.flatMap bv)).holds w) (hl_k : k.length = 32) (ho_l : ∀ x, x ∈ l → x.length = 32) (hh : 1 ≤ h ∧ h ≤ 12) (hn : l.length = 2 ^ h) (hz : ¬ inN 0 (2 ^ h) z) : Calls Tryd.prog 26 #[.pointer (some ⟨b, 0, none⟩), .int .i64 z] w fun e w' => ∃ v'0, e = .returned (.tuple #[v'0, .int .i64 2]) ∧ Mem w [] w' [own v'0 64 (([] : List (List UInt8)).length) (([] : List (List UInt8)).flatMap bv)] := by
  have hpw := two_pow_le hh
  have hpw1 := hpw.1
  have hpw2 := hpw.2
  have hal := allT_len (k := k) (n := 2 ^ h) (lv := l) (by omega)
  have hM : Mem w [] w [blkR b [bv k, [.int .i64 ((h : Nat) : Int)], [v]] [32, 1, 1] 86, rd v 32 l.length c (l.flatMap bv)] := Mem.startR w (fun g hg => by
    simp only [List.mem_cons, List.not_mem_nil, or_false] at hg
    rcases hg with rfl | rfl
    · exact ⟨hB, rfl⟩
    · exact ⟨hS, rfl⟩)
  refine f_enter 57 Tryd.func26 rfl rfl rfl ?_
  intro a hE
  replace hE : Env a 57 [(0, _), (1, _)] := hE
  refine wp_seq_k (fun K1 hK1 => ?_)
  refine wp_plain [true, true] rfl rfl ?_
  refine s_assign hE rfl rfl ?_; clear hE a; intro a hE
  refine s_assign hE rfl rfl ?_; clear hE a; intro a hE
  refine q_nil ?_
  refine hK1 _ _ ?_
  refine wp_seq_k (fun K2 hK2 => ?_)
  refine wp_seq_k (fun K3 hK3 => ?_)
  refine wp_plain [true, true, true, true, true, true, true, true, false, true, true] rfl rfl ?_
  refine s_move hE rfl rfl ?_; clear hE a; intro a hE
  refine s_bin hE rfl rfl bin_lss rfl ?_; clear hE a; intro a hE
  refine s_move hE rfl rfl ?_; clear hE a; intro a hE
  refine hE.split 12 rfl (fun hb12 hE' => ?_) (fun hb12 hE' => ?_)
  · replace hE := hE'; clear hE'
    replace hb12 := of_decide_eq_true hb12
    refine g_no (b := true) hE rfl rfl rfl ?_; clear hE a; intro a hE
    refine g_no (b := true) hE rfl rfl rfl ?_; clear hE a; intro a hE
    refine g_no (b := true) hE rfl rfl rfl ?_; clear hE a; intro a hE
    refine g_no (b := true) hE rfl rfl rfl ?_; clear hE a; intro a hE
    refine g_no (b := true) hE rfl rfl rfl ?_; clear hE a; intro a hE
    refine g_no (b := true) hE rfl rfl rfl ?_; clear hE a; intro a hE
    refine g_no (b := true) hE rfl rfl rfl ?_; clear hE a; intro a hE
    refine s_pickt hE rfl rfl rfl ?_; clear hE a; intro a hE
    refine q_nil ?_
    replace hE : Env a 57 [(0, _), (1, _), (4, _), (5, _), (20, _)] := hE.sel [0, 1, 4, 5, 20] rfl
    refine hK3 _ _ ?_
    refine wp_cond_true (hE.eval rfl) ?_
    refine wp_seq_k (fun K4 hK4 => ?_)
    refine wp_plain [true, true] rfl rfl ?_
    refine s_assign hE rfl rfl ?_; clear hE a; intro a hE
    refine s_assign hE rfl rfl ?_; clear hE a; intro a hE
    refine q_nil ?_
    refine hK4 _ _ ?_
    refine wp_ret ?_
    refine q_then_r ?_
    refine f_ret2 hE rfl rfl rfl ?_
    replace hM := hM.addNil 64
    replace hM := hM.ownEq (m' := ([] : List (List UInt8)).length) (cs' := ([] : List (List UInt8)).flatMap bv) rfl rfl
    exact ⟨_, (by first | rfl | (simp; done)), hM.pick [0] rfl⟩
  · replace hE := hE'; clear hE'
    replace hb12 := of_decide_eq_false hb12
    refine g_yes hE rfl rfl ?_
    refine s_move hE rfl rfl ?_; clear hE a; intro a hE
    refine g_yes hE rfl rfl ?_
    refine s_move hE rfl rfl ?_; clear hE a; intro a hE
    refine g_yes hE rfl rfl ?_
    refine s_nilCheck hE rfl rfl ?_; clear hE a; intro a hE
    refine g_yes hE rfl rfl ?_
    refine s_fieldAddr hE rfl fo86_1 rfl ?_; clear hE a; intro a hE
    refine g_yes hE rfl rfl ?_
    refine s_load1 hE rfl (blkR_blk (hM.get 0 rfl)) rfl one3 (by intro X h; cases h) rfl ?_; clear hE a; intro a hE
    refine g_yes hE rfl rfl ?_
    refine s_call hE rfl Tryd.call36 (power_c h _ (by first | omega | assumption | (simp; done) | (simp; omega) | decide)) rfl ?_
    rintro e w1 ⟨rfl, hN⟩
    refine ⟨_, rfl, trivial, ?_⟩; clear hE a; intro a hE
    replace hM : Mem _ _ w1 [_, _] := hM.call0 hN trivial; clear hN
    refine g_yes hE rfl rfl ?_
    refine s_bin hE rfl rfl bin_geq rfl ?_; clear hE a; intro a hE
    refine s_pickf hE rfl rfl rfl ?_; clear hE a; intro a hE
    refine q_nil ?_
    replace hE : Env a 57 [(0, _), (1, _), (4, _), (5, _), (20, _)] := hE.sel [0, 1, 4, 5, 20] rfl
    refine hK3 _ _ ?_
    replace hE := hE.cast 20 rfl (show _ = Value.bool true from (congrArg Value.bool (decide_eq_true (by omega))))
    refine wp_cond_true (hE.eval rfl) ?_
    refine wp_seq_k (fun K4 hK4 => ?_)
    refine wp_plain [true, true] rfl rfl ?_
    refine s_assign hE rfl rfl ?_; clear hE a; intro a hE
    refine s_assign hE rfl rfl ?_; clear hE a; intro a hE
    refine q_nil ?_
    refine hK4 _ _ ?_
    refine wp_ret ?_
    refine q_then_r ?_
    refine f_ret2 hE rfl rfl rfl ?_
    replace hM := hM.addNil 64
    replace hM := hM.ownEq (m' := ([] : List (List UInt8)).length) (cs' := ([] : List (List UInt8)).flatMap bv) rfl rfl
    exact ⟨_, (by first | rfl | (simp; done)), hM.pick [0] rfl⟩
theorem rproofI_c (b h : Nat) (k : List UInt8) (v : Value) (l : List (List UInt8)) (c : Nat) (z : Int) (w : World) (hB : (blk b [bv k, [.int .i64 (h : Int)], [v]] [32, 1, 1] 86).holds w) (hS : (rd v 32 l.length c (l.flatMap bv)).holds w) (hl_k : k.length = 32) (ho_l : ∀ x, x ∈ l → x.length = 32) (hh : 1 ≤ h ∧ h ≤ 12) (hn : l.length = 2 ^ h) : Calls Tryd.prog 26 #[.pointer (some ⟨b, 0, none⟩), .int .i64 z] w fun e w' => ∃ u, e = .returned (.tuple #[u, .int .i64 ((eZ 0 (2 ^ h) z : Nat) : Int)]) ∧ Mem w [] w' [own u 64 (proofZ (allT k (2 ^ h) l) h z).length ((proofZ (allT k (2 ^ h) l) h z).flatMap bv)] := by
  have hpw := two_pow_le hh
  have hpw2 := hpw.2
  by_cases hz : inN 0 (2 ^ h) z
  · obtain ⟨q, rfl⟩ : ∃ q : Nat, z = (q : Int) := ⟨z.toNat, by omega⟩
    rw [proofZ_in hz, eZ_in hz]
    exact rproof_c b h k v l c q w hB hS hl_k ho_l hh hn (by omega)
  · rw [proofZ_out hz, eZ_out hz]
    exact rproof_no b h k v l c z w hB hS hl_k ho_l hh hn hz
theorem rnew_c (k : List UInt8) (h : Nat) (v : Value) (ls : List (List UInt8)) (c : Nat) (w : World) (hr_ls : (rd v 32 ls.length c (ls.flatMap bv)).holds w) (hl_k : k.length = 32) (ho_ls : ∀ x, x ∈ ls → x.length = 32) (hh : 1 ≤ h ∧ h ≤ 12) (hls : ls.length ≤ 2 ^ h) : Calls Tryd.prog 21 #[.agg (bv k).toArray, .int .i64 (h : Int), v] w fun e w' => ∃ b u, e = .returned (.tuple #[.pointer (some ⟨b, 0, none⟩), .int .i64 0]) ∧ Mem w [] w' [blk b [bv k, [.int .i64 (h : Int)], [u]] [32, 1, 1] 86, own u 32 (padL (2 ^ h) ls).length ((padL (2 ^ h) ls).flatMap bv)] := by
  have hM : Mem w [] w [rd v 32 ls.length c (ls.flatMap bv)] := Mem.startR1 hr_ls rfl
  have hpw := two_pow_le hh
  have hpw1 := hpw.1
  have hpw2 := hpw.2
  refine f_enter 47 Tryd.func21 rfl rfl rfl ?_
  intro a hE
  replace hE : Env a 47 [(0, _), (1, _), (2, _)] := hE
  refine wp_seq_k (fun K1 hK1 => ?_)
  refine wp_plain [false, true, true] rfl rfl ?_
  refine s_box (ss := [bv k]) [32] hE hM rfl (by simp [Value.cells]) (by simp [*]) rfl ?_; clear hE a; intro a b3 w1 hE hM'
  clear hM; have hM := hM'; clear hM'
  refine s_assign hE rfl rfl ?_; clear hE a; intro a hE
  refine s_assign hE rfl rfl ?_; clear hE a; intro a hE
  refine q_nil ?_
  replace hE : Env a 47 [(1, _), (2, _), (3, _), (6, _), (7, _)] := hE.sel [1, 2, 3, 6, 7] rfl
  refine hK1 _ _ ?_
  refine wp_seq_k (fun K2 hK2 => ?_)
  refine wp_seq_k (fun K3 hK3 => ?_)
  refine wp_plain [true, true, true, true, true, true, true, true, true, true, false, true, true] rfl rfl ?_
  refine s_move hE rfl rfl ?_; clear hE a; intro a hE
  refine s_bin hE rfl rfl bin_lss rfl ?_; clear hE a; intro a hE
  refine s_move hE rfl rfl ?_; clear hE a; intro a hE
  replace hE := hE.cast 12 rfl (show _ = Value.bool false from (congrArg Value.bool (decide_eq_false (by omega))))
  refine g_yes hE rfl rfl ?_
  refine s_move hE rfl rfl ?_; clear hE a; intro a hE
  refine g_yes hE rfl rfl ?_
  refine s_bin hE rfl rfl bin_gtr rfl ?_; clear hE a; intro a hE
  refine s_pickf hE rfl rfl rfl ?_; clear hE a; intro a hE
  refine s_move hE rfl rfl ?_; clear hE a; intro a hE
  replace hE := hE.cast 16 rfl (show _ = Value.bool false from (congrArg Value.bool (decide_eq_false (by omega))))
  refine g_yes hE rfl rfl ?_
  refine s_move hE rfl rfl ?_; clear hE a; intro a hE
  refine g_yes hE rfl rfl ?_
  refine s_len hE rfl Tryd.underlying24 (rd_slice (hM.get 1 rfl)) rfl ?_; clear hE a; intro a hE
  refine g_yes hE rfl rfl ?_
  refine s_move hE rfl rfl ?_; clear hE a; intro a hE
  refine g_yes hE rfl rfl ?_
  refine s_call hE rfl Tryd.call36 (power_c h _ (by first | omega | assumption | (simp; done) | (simp; omega) | decide)) rfl ?_
  rintro e w2 ⟨rfl, hN⟩
  refine ⟨_, rfl, trivial, ?_⟩; clear hE a; intro a hE
  replace hM : Mem _ _ w2 [_, _] := hM.call0 hN trivial; clear hN
  refine g_yes hE rfl rfl ?_
  refine s_bin hE rfl rfl bin_gtr rfl ?_; clear hE a; intro a hE
  refine s_pickf hE rfl rfl rfl ?_; clear hE a; intro a hE
  refine q_nil ?_
  replace hE : Env a 47 [(1, _), (2, _), (3, _), (6, _), (7, _), (22, _)] := hE.sel [1, 2, 3, 6, 7, 22] rfl
  refine hK3 _ _ ?_
  replace hE := hE.cast 22 rfl (show _ = Value.bool false from (congrArg Value.bool (decide_eq_false (by omega))))
  refine wp_cond_false (hE.eval rfl) ?_
  refine wp_skip ?_
  refine hK2 _ _ ?_
  refine wp_seq_k (fun K4 hK4 => ?_)
  refine wp_drawnM hM (by kernel_rfl) (fun _ => False) [(0, true), (1, true), (2, true), (3, false), (4, false), (5, true), (6, false), (7, true)] [(3, [(4, 3), (5, 4), (6, 5), (7, 3)]), (4, [(5, 4), (6, 5), (7, 4)]), (6, [(7, 6)])] (by kernel_rfl) rfl ?_
  intro w3 hM' hww3; clear hM; have hM := hM'; clear hM'
  refine s_loadN hE rfl (hM.get 0 rfl) row23 rfl (by intro X h; cases h; simp) rfl ?_; clear hE a; intro a hE
  refine s_move hE rfl rfl ?_; clear hE a; intro a hE
  refine s_move hE rfl rfl ?_; clear hE a; intro a hE
  refine s_call hE rfl Tryd.call36 (power_c h _ (by first | omega | assumption | (simp; done) | (simp; omega) | decide)) rfl ?_
  rintro e w4 ⟨rfl, hN⟩
  refine ⟨_, rfl, hN.sta0 _, ?_⟩; clear hE a; intro a hE
  replace hM : Mem _ _ w4 [_, _] := hM.call0 hN trivial; clear hN
  refine s_makeSlice (m := 2 ^ h) (zc := bv zTg) hE rfl rfl hM sl24 ⟨.agg ([bv (List.replicate 32 0)] : List (List Value)).flatten.toArray, by kernel_rfl, rfl⟩ rfl rfl (by first | decide | omega) (by first | decide | omega) (by decide) rfl ?_; clear hE a; intro a v27 w5 hE hM'; clear hM; have hM := hM'; clear hM'
  replace hM := hM.ownEq (m' := (List.replicate (2 ^ h) zTg).length) (cs' := (List.replicate (2 ^ h) zTg).flatMap bv) List.length_replicate.symm (rep_flat rfl)
  have hbq63_0 : k.length = 32 := hl_k
  refine s_buildS [bv k, [.int .i64 ((h : Nat) : Int)], [v27]] hE rfl zero86 rfl fpl86 (by have ho := (own_one (hM.get 0 rfl)).1; simp only [Value.cells] at ho; simp [PartsOk, Value.cells, *]) rfl ?_; clear hE a; intro a hE
  replace hE := hE.cast 28 rfl (show _ = Value.agg ([bv k, [.int .i64 ((h : Nat) : Int)], [v27]] : List (List Value)).flatten.toArray from (by first | rfl | simp [setAll]))
  refine s_box (ss := [bv k, [.int .i64 ((h : Nat) : Int)], [v27]]) [32, 1, 1] hE hM rfl rfl (by simp [*]) rfl ?_; clear hE a; intro a b29 w6 hE hM'
  clear hM; have hM := hM'; clear hM'
  refine s_assign hE rfl rfl ?_; clear hE a; intro a hE
  refine q_nil ?_
  replace hE : Env a 47 [(1, _), (2, _), (6, _), (7, _), (8, _), (22, _)] := hE.sel [1, 2, 6, 7, 8, 22] rfl
  refine hK4 _ _ ?_
  refine wp_seq_k (fun K5 hK5 => ?_)
  refine wp_seq_k (fun K6 hK6 => ?_)
  refine wp_plain [true] rfl rfl ?_
  refine s_assign hE rfl rfl ?_; clear hE a; intro a hE
  refine q_nil ?_
  refine hK6 _ _ ?_
  refine wp_block ?_
  replace hM : Mem _ _ w6 [_, _, _, _] := hM.pick [1, 0, 2, 3] rfl
  replace hM := Mem.ownRowsEq (f := bv) (ls := List.replicate (2 ^ h) zTg) (ms := padL (2 ^ h) (ls.take 0)) hM (by rw [List.take_zero]; rfl)
  replace hM : Mem _ _ w6 [_, _, _, _] := hM.pick [1, 0, 2, 3] rfl
  refine c_loop (fun (i : Nat) a w' => i ≤ ls.length ∧ Env a 47 [(1, .int .i64 ((h : Nat) : Int)), (2, v), (6, .pointer none), (7, .int .i64 0), (8, .pointer (some ⟨b29, 0, none⟩)), (9, .int .i64 ((i : Nat) : Int)), (22, .bool false)] ∧ Mem w [] w' [blk b29 [bv k, [.int .i64 ((h : Nat) : Int)], [v27]] [32, 1, 1] 86, own v27 32 ((padL (2 ^ h) (ls.take i)).length) ((padL (2 ^ h) (ls.take i)).flatMap bv), blk b3 [bv k] [32] 23, rd v 32 ls.length c (ls.flatMap bv)]) (fun i => ls.length - i) 0 ⟨Nat.zero_le _, hE.sel [1, 2, 6, 7, 8, 9, 22] rfl, hM⟩ ?_
  clear hE hM a; rintro i a w7 ⟨hi, hE, hM⟩
  refine wp_seq_k (fun K7 hK7 => ?_)
  refine wp_seq_k (fun K8 hK8 => ?_)
  refine wp_plain [true, true, true, true] rfl rfl ?_
  refine s_move hE rfl rfl ?_; clear hE a; intro a hE
  refine s_move hE rfl rfl ?_; clear hE a; intro a hE
  refine s_len hE rfl Tryd.underlying24 (rd_slice (hM.get 3 rfl)) rfl ?_; clear hE a; intro a hE
  refine s_bin hE rfl rfl bin_lss rfl ?_; clear hE a; intro a hE
  refine q_nil ?_
  replace hE : Env a 47 [(1, _), (2, _), (6, _), (7, _), (8, _), (9, _), (22, _), (33, _)] := hE.sel [1, 2, 6, 7, 8, 9, 22, 33] rfl
  refine hK8 _ _ ?_
  refine hE.split 33 rfl (fun hb33 hE' => ?_) (fun hb33 hE' => ?_)
  · replace hE := hE'; clear hE'
    replace hb33 := of_decide_eq_true hb33
    replace hb33 : i < ls.length := by omega
    replace hb33 : i < ls.length := by omega
    refine wp_cond_true (hE.eval rfl) ?_
    refine wp_skip ?_
    refine hK7 _ _ ?_
    refine wp_seq_k (fun K9 hK9 => ?_)
    refine wp_block ?_
    refine wp_treeM hM (by kernel_rfl) (fun _ => True) (fun _ => True) (.re [(0, true), (1, true), (2, true), (4, true), (5, true), (6, true), (7, true), (3, true), (8, true), (9, true), (10, false)] (.fl 7 (.weak (.fl 3 (.cut (.or 10 (.cut (.re [] (.weak (.leaf 0)))) (.stop))))))) [(0, true), (1, true), (2, true), (4, true), (5, true), (6, true), (7, true), (3, true), (8, true), (9, true), (10, false)] [(1, [(2, 1), (3, 2), (9, 1), (10, 1)]), (2, [(3, 2), (9, 2), (10, 2)]), (3, [(9, 3), (10, 3)]), (7, [(8, 7), (9, 7), (10, 7)]), (8, [(9, 8), (10, 8)]), (9, [(10, 9)]), (10, [])] (by kernel_rfl) ?_
    intro w8 hM' hww8; clear hM; have hM := hM'; clear hM'
    refine o_re ?_
    refine o_fl rfl ?_
    refine s_move hE rfl rfl ?_; clear hE a; intro a hE
    refine s_nilCheck hE rfl rfl ?_; clear hE a; intro a hE
    refine s_fieldAddr hE rfl fo86_2 rfl ?_; clear hE a; intro a hE
    refine s_move hE rfl rfl ?_; clear hE a; intro a hE
    refine s_move hE rfl rfl ?_; clear hE a; intro a hE
    refine s_move hE rfl rfl ?_; clear hE a; intro a hE
    refine s_indexRd (j := i) hE rfl (hM.get 3 rfl) rfl slt24 (by first | rfl | omega) (by first | (rw [padL_length (by rw [List.length_take]; omega)]; omega) | omega) rfl ?_; clear hE a; intro a p43 hE hc43 hp43
    have hlj43 : i < ls.length := (by first | (rw [padL_length (by rw [List.length_take]; omega)]; omega) | omega)
    have hok43 := ho_ls _ (getD_mem (d := zTg) hlj43)
    rw [flat_elem (d := zTg) (fun x hx => ((bv_length _).trans (ho_ls x hx))) hlj43] at hc43
    refine q_nil (q_nx ?_)
    refine o_weak (fun _ => False) (fun _ _ => trivial) ?_
    refine o_fl rfl ?_
    refine s_load1 hE rfl (hM.get 0 rfl) rfl one24 (by intro X h; cases h; simp) rfl ?_; clear hE a; intro a hE
    refine s_loadAtN hE rfl hc43 (by rw [((bv_length _).trans hok43)]; exact row34) (by intro X h; cases h; simp) rfl ?_; clear hE a; intro a hE
    replace hE := hE.cast 44 rfl (show _ = Value.agg (bv (ls.getD i zTg)).toArray from rfl)
    have hlj45 : i < (padL (2 ^ h) (ls.take i)).length := (by first | (rw [padL_length (by rw [List.length_take]; omega)]; omega) | omega)
    refine s_indexOwn (j := i) hE rfl (hM.get 1 rfl) rfl slt24 (by first | rfl | omega) hlj45 rfl ?_; clear hE a; intro a hE hc45
    refine q_nil (q_nx ?_)
    refine o_cut (fun b => b ∈ valBlocks v27) ?_
    refine o_or rfl ?_ ?_
    · replace hM : Mem _ _ w8 [_, _, _, _] := hM.pick [1, 0, 2, 3] rfl
      have hls45 : (ls.getD i zTg).length = 32 := hok43
      refine s_storeOwn (vs := bv (ls.getD i zTg)) hE rfl rfl hM rfl sz34 ((bv_length _).trans hls45) (bv_one _) (by rw [bv_length, hls45]; have := hlj45; omega) (by have := hlj45; omega) (by intro X h; cases h; exact fun _ hb => hb) ?_; intro w9 hM'; clear hM; have hM := hM'; clear hM'
      replace hM := Mem.rowPut (ls := padL (2 ^ h) (ls.take i)) (x := (ls.getD i zTg)) (j := i) hM rfl (OkTs.pad (take_okT ho_ls)) hls45 hlj45
      refine q_nil (q_nx ?_)
      refine o_cut (fun _ => True) ?_
      refine o_re ?_
      refine o_weak (fun _ => False) (fun _ _ => trivial) ?_
      refine o_leaf rfl rfl ?_
      refine q_nil (q_ph (q_nil ?_))
      replace hE : Env a 47 [(1, _), (2, _), (6, _), (7, _), (8, _), (9, _), (22, _), (33, _)] := hE.sel [1, 2, 6, 7, 8, 9, 22, 33] rfl
      refine q_block_n ?_
      refine hK9 _ _ ?_
      refine wp_plain [true, true, true] rfl rfl ?_
      refine s_move hE rfl rfl ?_; clear hE a; intro a hE
      refine s_bin hE rfl rfl (show Bin _ _ _ _ _ (.int .i64 ((i + 1 : Nat) : Int)) from bin_add (by rw [wrap_i64 (by omega) (by omega)]; omega)) rfl ?_; clear hE a; intro a hE
      refine s_assign hE rfl rfl ?_; clear hE a; intro a hE
      refine q_nil ?_
      replace hE : Env a 47 [(1, _), (2, _), (6, _), (7, _), (8, _), (9, _), (22, _), (33, _)] := hE.sel [1, 2, 6, 7, 8, 9, 22, 33] rfl
      replace hE := hE.cast 9 rfl (show _ = Value.int .i64 (((i + 1) : Nat) : Int) from (congrArg _ (by omega)))
      replace hM := Mem.ownRowsEq (f := bv) (ls := (padL (2 ^ h) (ls.take i)).set i (ls.getD i zTg)) (ms := padL (2 ^ h) (ls.take (i + 1))) hM (putR_pad (by omega) hls)
      replace hM : Mem _ _ w9 [_, _, _, _] := hM.pick [0, 1, 2, 3] rfl
      replace hM : Mem _ _ w9 [_, _, _, _] := hM.pick [1, 0, 2, 3] rfl
      exact ⟨i + 1, ⟨by omega, hE.sel [1, 2, 6, 7, 8, 9, 22] rfl, hM⟩, by omega⟩
    trivial
  · replace hE := hE'; clear hE'
    replace hb33 := of_decide_eq_false hb33
    replace hb33 : ¬ (i < ls.length) := by omega
    obtain rfl : ls.length = i := by omega
    refine wp_cond_false (hE.eval rfl) ?_
    refine wp_exit ?_
    refine q_then_e ?_
    refine q_then_e ?_
    refine q_block_x ?_
    refine hK5 _ _ ?_
    refine wp_seq_k (fun K9 hK9 => ?_)
    refine wp_plain [true, true, true] rfl rfl ?_
    refine s_move hE rfl rfl ?_; clear hE a; intro a hE
    refine s_assign hE rfl rfl ?_; clear hE a; intro a hE
    refine s_assign hE rfl rfl ?_; clear hE a; intro a hE
    refine q_nil ?_
    replace hE : Env a 47 [(1, _), (2, _), (6, _), (7, _), (8, _), (9, _), (22, _), (33, _)] := hE.sel [1, 2, 6, 7, 8, 9, 22, 33] rfl
    refine hK9 _ _ ?_
    refine wp_ret ?_
    refine f_ret2 hE rfl rfl rfl ?_
    replace hM : Mem _ _ w7 [_, _, _, _] := hM.pick [1, 0, 2, 3] rfl
    replace hM := Mem.ownRowsEq (f := bv) (ls := padL (2 ^ h) (ls.take ls.length)) (ms := padL (2 ^ h) ls) hM (by rw [List.take_length])
    exact ⟨_, _, rfl, hM.pick [1, 0] rfl⟩
theorem rnew_no1 (k : List UInt8) (y : Int) (v : Value) (ls : List (List UInt8)) (c : Nat) (w : World) (hl_k : k.length = 32) (hr_ls : (rd v 32 ls.length c (ls.flatMap bv)).holds w) (ho_ls : ∀ x, x ∈ ls → x.length = 32) (hh : ¬ (1 ≤ y ∧ y ≤ 12)) : Calls Tryd.prog 21 #[.agg (bv k).toArray, .int .i64 y, v] w fun e w' => e = .returned (.tuple #[.pointer none, .int .i64 2]) ∧ Mem w [] w' [] := by
  have hM : Mem w [] w [rd v 32 ls.length c (ls.flatMap bv)] := Mem.startR w (fun g hg => by
    simp only [List.mem_cons, List.not_mem_nil, or_false] at hg
    rcases hg with rfl
    · exact ⟨hr_ls, rfl⟩)
  refine f_enter 47 Tryd.func21 rfl rfl rfl ?_
  intro a hE
  replace hE : Env a 47 [(0, _), (1, _), (2, _)] := hE
  refine wp_seq_k (fun K1 hK1 => ?_)
  refine wp_plain [false, true, true] rfl rfl ?_
  refine s_box (ss := [bv k]) [32] hE hM rfl (by simp [Value.cells]) (by simp [*]) rfl ?_; clear hE a; intro a b3 w1 hE hM'
  clear hM; have hM := hM'; clear hM'
  refine s_assign hE rfl rfl ?_; clear hE a; intro a hE
  refine s_assign hE rfl rfl ?_; clear hE a; intro a hE
  refine q_nil ?_
  replace hE : Env a 47 [(1, _), (2, _), (3, _), (6, _), (7, _)] := hE.sel [1, 2, 3, 6, 7] rfl
  refine hK1 _ _ ?_
  refine wp_seq_k (fun K2 hK2 => ?_)
  refine wp_seq_k (fun K3 hK3 => ?_)
  refine wp_plain [true, true, true, true, true, true, true, true, true, true, false, true, true] rfl rfl ?_
  refine s_move hE rfl rfl ?_; clear hE a; intro a hE
  refine s_bin hE rfl rfl bin_lss rfl ?_; clear hE a; intro a hE
  refine s_move hE rfl rfl ?_; clear hE a; intro a hE
  refine hE.split 12 rfl (fun hb12 hE' => ?_) (fun hb12 hE' => ?_)
  · replace hE := hE'; clear hE'
    replace hb12 := of_decide_eq_true hb12
    refine g_no (b := true) hE rfl rfl rfl ?_; clear hE a; intro a hE
    refine g_no (b := true) hE rfl rfl rfl ?_; clear hE a; intro a hE
    refine s_pickt hE rfl rfl rfl ?_; clear hE a; intro a hE
    refine s_move hE rfl rfl ?_; clear hE a; intro a hE
    refine g_no (b := true) hE rfl rfl rfl ?_; clear hE a; intro a hE
    refine g_no (b := true) hE rfl rfl rfl ?_; clear hE a; intro a hE
    refine g_no (b := true) hE rfl rfl rfl ?_; clear hE a; intro a hE
    refine g_no (b := true) hE rfl rfl rfl ?_; clear hE a; intro a hE
    refine g_no (b := true) hE rfl rfl rfl ?_; clear hE a; intro a hE
    refine s_pickt hE rfl rfl rfl ?_; clear hE a; intro a hE
    refine q_nil ?_
    replace hE : Env a 47 [(1, _), (2, _), (3, _), (6, _), (7, _), (22, _)] := hE.sel [1, 2, 3, 6, 7, 22] rfl
    refine hK3 _ _ ?_
    refine wp_cond_true (hE.eval rfl) ?_
    refine wp_seq_k (fun K4 hK4 => ?_)
    refine wp_plain [true, true] rfl rfl ?_
    refine s_assign hE rfl rfl ?_; clear hE a; intro a hE
    refine s_assign hE rfl rfl ?_; clear hE a; intro a hE
    refine q_nil ?_
    refine hK4 _ _ ?_
    refine wp_ret ?_
    refine q_then_r ?_
    refine f_ret2 hE rfl rfl rfl ?_
    exact ⟨(by first | rfl | (simp; done)), hM.pick [] rfl⟩
  · replace hE := hE'; clear hE'
    replace hb12 := of_decide_eq_false hb12
    refine g_yes hE rfl rfl ?_
    refine s_move hE rfl rfl ?_; clear hE a; intro a hE
    refine g_yes hE rfl rfl ?_
    refine s_bin hE rfl rfl bin_gtr rfl ?_; clear hE a; intro a hE
    refine s_pickf hE rfl rfl rfl ?_; clear hE a; intro a hE
    refine s_move hE rfl rfl ?_; clear hE a; intro a hE
    replace hE := hE.cast 16 rfl (show _ = Value.bool true from (congrArg Value.bool (decide_eq_true (by omega))))
    refine g_no (b := true) hE rfl rfl rfl ?_; clear hE a; intro a hE
    refine g_no (b := true) hE rfl rfl rfl ?_; clear hE a; intro a hE
    refine g_no (b := true) hE rfl rfl rfl ?_; clear hE a; intro a hE
    refine g_no (b := true) hE rfl rfl rfl ?_; clear hE a; intro a hE
    refine g_no (b := true) hE rfl rfl rfl ?_; clear hE a; intro a hE
    refine s_pickt hE rfl rfl rfl ?_; clear hE a; intro a hE
    refine q_nil ?_
    replace hE : Env a 47 [(1, _), (2, _), (3, _), (6, _), (7, _), (22, _)] := hE.sel [1, 2, 3, 6, 7, 22] rfl
    refine hK3 _ _ ?_
    refine wp_cond_true (hE.eval rfl) ?_
    refine wp_seq_k (fun K4 hK4 => ?_)
    refine wp_plain [true, true] rfl rfl ?_
    refine s_assign hE rfl rfl ?_; clear hE a; intro a hE
    refine s_assign hE rfl rfl ?_; clear hE a; intro a hE
    refine q_nil ?_
    refine hK4 _ _ ?_
    refine wp_ret ?_
    refine q_then_r ?_
    refine f_ret2 hE rfl rfl rfl ?_
    exact ⟨(by first | rfl | (simp; done)), hM.pick [] rfl⟩
theorem rnew_no2 (k : List UInt8) (h : Nat) (v : Value) (ls : List (List UInt8)) (c : Nat) (w : World) (hl_k : k.length = 32) (hr_ls : (rd v 32 ls.length c (ls.flatMap bv)).holds w) (ho_ls : ∀ x, x ∈ ls → x.length = 32) (hh : 1 ≤ h ∧ h ≤ 12) (hz : ¬ ls.length ≤ 2 ^ h) : Calls Tryd.prog 21 #[.agg (bv k).toArray, .int .i64 (h : Int), v] w fun e w' => e = .returned (.tuple #[.pointer none, .int .i64 2]) ∧ Mem w [] w' [] := by
  have hpw := two_pow_le hh
  have hpw1 := hpw.1
  have hpw2 := hpw.2
  have hM : Mem w [] w [rd v 32 ls.length c (ls.flatMap bv)] := Mem.startR w (fun g hg => by
    simp only [List.mem_cons, List.not_mem_nil, or_false] at hg
    rcases hg with rfl
    · exact ⟨hr_ls, rfl⟩)
  refine f_enter 47 Tryd.func21 rfl rfl rfl ?_
  intro a hE
  replace hE : Env a 47 [(0, _), (1, _), (2, _)] := hE
  refine wp_seq_k (fun K1 hK1 => ?_)
  refine wp_plain [false, true, true] rfl rfl ?_
  refine s_box (ss := [bv k]) [32] hE hM rfl (by simp [Value.cells]) (by simp [*]) rfl ?_; clear hE a; intro a b3 w1 hE hM'
  clear hM; have hM := hM'; clear hM'
  refine s_assign hE rfl rfl ?_; clear hE a; intro a hE
  refine s_assign hE rfl rfl ?_; clear hE a; intro a hE
  refine q_nil ?_
  replace hE : Env a 47 [(1, _), (2, _), (3, _), (6, _), (7, _)] := hE.sel [1, 2, 3, 6, 7] rfl
  refine hK1 _ _ ?_
  refine wp_seq_k (fun K2 hK2 => ?_)
  refine wp_seq_k (fun K3 hK3 => ?_)
  refine wp_plain [true, true, true, true, true, true, true, true, true, true, false, true, true] rfl rfl ?_
  refine s_move hE rfl rfl ?_; clear hE a; intro a hE
  refine s_bin hE rfl rfl bin_lss rfl ?_; clear hE a; intro a hE
  refine s_move hE rfl rfl ?_; clear hE a; intro a hE
  replace hE := hE.cast 12 rfl (show _ = Value.bool false from (congrArg Value.bool (decide_eq_false (by omega))))
  refine g_yes hE rfl rfl ?_
  refine s_move hE rfl rfl ?_; clear hE a; intro a hE
  refine g_yes hE rfl rfl ?_
  refine s_bin hE rfl rfl bin_gtr rfl ?_; clear hE a; intro a hE
  refine s_pickf hE rfl rfl rfl ?_; clear hE a; intro a hE
  refine s_move hE rfl rfl ?_; clear hE a; intro a hE
  replace hE := hE.cast 16 rfl (show _ = Value.bool false from (congrArg Value.bool (decide_eq_false (by omega))))
  refine g_yes hE rfl rfl ?_
  refine s_move hE rfl rfl ?_; clear hE a; intro a hE
  refine g_yes hE rfl rfl ?_
  refine s_len hE rfl Tryd.underlying24 (rd_slice (hM.get 1 rfl)) rfl ?_; clear hE a; intro a hE
  refine g_yes hE rfl rfl ?_
  refine s_move hE rfl rfl ?_; clear hE a; intro a hE
  refine g_yes hE rfl rfl ?_
  refine s_call hE rfl Tryd.call36 (power_c h _ (by first | omega | assumption | (simp; done) | (simp; omega) | decide)) rfl ?_
  rintro e w2 ⟨rfl, hN⟩
  refine ⟨_, rfl, trivial, ?_⟩; clear hE a; intro a hE
  replace hM : Mem _ _ w2 [_, _] := hM.call0 hN trivial; clear hN
  refine g_yes hE rfl rfl ?_
  refine s_bin hE rfl rfl bin_gtr rfl ?_; clear hE a; intro a hE
  refine s_pickf hE rfl rfl rfl ?_; clear hE a; intro a hE
  refine q_nil ?_
  replace hE : Env a 47 [(1, _), (2, _), (3, _), (6, _), (7, _), (22, _)] := hE.sel [1, 2, 3, 6, 7, 22] rfl
  refine hK3 _ _ ?_
  replace hE := hE.cast 22 rfl (show _ = Value.bool true from (congrArg Value.bool (decide_eq_true (by omega))))
  refine wp_cond_true (hE.eval rfl) ?_
  refine wp_seq_k (fun K4 hK4 => ?_)
  refine wp_plain [true, true] rfl rfl ?_
  refine s_assign hE rfl rfl ?_; clear hE a; intro a hE
  refine s_assign hE rfl rfl ?_; clear hE a; intro a hE
  refine q_nil ?_
  refine hK4 _ _ ?_
  refine wp_ret ?_
  refine q_then_r ?_
  refine f_ret2 hE rfl rfl rfl ?_
  exact ⟨(by first | rfl | (simp; done)), hM.pick [] rfl⟩
theorem rset_c (b h q : Nat) (k tg : List UInt8) (v : Value) (l : List (List UInt8)) (w : World) (hB : (blk b [bv k, [.int .i64 ((h : Nat) : Int)], [v]] [32, 1, 1] 86).holds w) (hS : (own v 32 l.length (l.flatMap bv)).holds w) (hap : ∀ x, x ∈ valBlocks v → x ∉ [b]) (hl_k : k.length = 32) (ho_l : ∀ x, x ∈ l → x.length = 32) (hh : 1 ≤ h ∧ h ≤ 12) (hn : l.length = 2 ^ h) (hl_tg : tg.length = 32) (hq : q < 2 ^ h) : Calls Tryd.prog 22 #[.pointer (some ⟨b, 0, none⟩), .int .i64 (q : Int), .agg (bv tg).toArray] w fun e w' => ∃ u, e = .returned (.tuple #[u, .int .i64 0]) ∧ Mem w (valBlocks v) w' [own u 1 (chgZ k h l (q : Int) tg).length ((chgZ k h l (q : Int) tg).flatMap intC), own v 32 (lvZ l h (q : Int) tg).length ((lvZ l h (q : Int) tg).flatMap bv)] := by
  have hM : Mem w (valBlocks v) w [blkR b [bv k, [.int .i64 ((h : Nat) : Int)], [v]] [32, 1, 1] 86, own v 32 l.length (l.flatMap bv)] := Mem.startRW (e := blkR b [bv k, [.int .i64 ((h : Nat) : Int)], [v]] [32, 1, 1] 86) hB hS rfl rfl (fun x hx hx' => hap x hx' hx)
  have hpw := two_pow_le hh
  have hpw1 := hpw.1
  have hpw2 := hpw.2
  have hal := allT_len (k := k) (n := 2 ^ h) (lv := l) (by omega)
  have hal1 := allT_len (k := k) (n := 2 ^ h) (lv := l.set q tg) (by simp only [List.length_set]; omega)
  have hpl0 : (pathZ ((h : Nat) : Int) ((q : Nat) : Int)).length = h := path_len hh hq
  refine f_enter 83 Tryd.func22 rfl rfl rfl ?_
  intro a hE
  replace hE : Env a 83 [(0, _), (1, _), (2, _)] := hE
  refine wp_seq_k (fun K1 hK1 => ?_)
  refine wp_plain [false, true, true] rfl rfl ?_
  refine s_box (ss := [bv tg]) [32] hE hM rfl (by simp [Value.cells]) (by simp [*]) rfl ?_; clear hE a; intro a b5 w1 hE hM'
  clear hM; have hM := hM'; clear hM'
  refine s_assign hE rfl rfl ?_; clear hE a; intro a hE
  refine s_assign hE rfl rfl ?_; clear hE a; intro a hE
  refine q_nil ?_
  replace hE : Env a 83 [(0, _), (1, _), (5, _), (6, _), (7, _)] := hE.sel [0, 1, 5, 6, 7] rfl
  refine hK1 _ _ ?_
  refine wp_seq_k (fun K2 hK2 => ?_)
  refine wp_seq_k (fun K3 hK3 => ?_)
  refine wp_plain [true, true, true, true, true, true, true, true, false, true, true] rfl rfl ?_
  refine s_move hE rfl rfl ?_; clear hE a; intro a hE
  refine s_bin hE rfl rfl bin_lss rfl ?_; clear hE a; intro a hE
  refine s_move hE rfl rfl ?_; clear hE a; intro a hE
  replace hE := hE.cast 16 rfl (show _ = Value.bool false from (congrArg Value.bool (decide_eq_false (by omega))))
  refine g_yes hE rfl rfl ?_
  refine s_move hE rfl rfl ?_; clear hE a; intro a hE
  refine g_yes hE rfl rfl ?_
  refine s_move hE rfl rfl ?_; clear hE a; intro a hE
  refine g_yes hE rfl rfl ?_
  refine s_nilCheck hE rfl rfl ?_; clear hE a; intro a hE
  refine g_yes hE rfl rfl ?_
  refine s_fieldAddr hE rfl fo86_1 rfl ?_; clear hE a; intro a hE
  refine g_yes hE rfl rfl ?_
  refine s_load1 hE rfl (blkR_blk (hM.get 1 rfl)) rfl one3 (by intro X h; cases h) rfl ?_; clear hE a; intro a hE
  refine g_yes hE rfl rfl ?_
  refine s_call hE rfl Tryd.call36 (power_c h _ (by first | omega | assumption | (simp; done) | (simp; omega) | decide)) rfl ?_
  rintro e w2 ⟨rfl, hN⟩
  refine ⟨_, rfl, trivial, ?_⟩; clear hE a; intro a hE
  replace hM : Mem _ _ w2 [_, _, _] := hM.call0 hN trivial; clear hN
  refine g_yes hE rfl rfl ?_
  refine s_bin hE rfl rfl bin_geq rfl ?_; clear hE a; intro a hE
  refine s_pickf hE rfl rfl rfl ?_; clear hE a; intro a hE
  refine q_nil ?_
  replace hE : Env a 83 [(0, _), (1, _), (5, _), (6, _), (7, _), (24, _)] := hE.sel [0, 1, 5, 6, 7, 24] rfl
  refine hK3 _ _ ?_
  replace hE := hE.cast 24 rfl (show _ = Value.bool false from (congrArg Value.bool (decide_eq_false (by omega))))
  refine wp_cond_false (hE.eval rfl) ?_
  refine wp_skip ?_
  refine hK2 _ _ ?_
  refine wp_seq_k (fun K4 hK4 => ?_)
  refine wp_plain [true, false, true] rfl rfl ?_
  refine s_move hE rfl rfl ?_; clear hE a; intro a hE
  obtain ⟨cs1, hs1⟩ := own_rd (hM.get 2 rfl)
  refine s_call hE rfl Tryd.call39 (rall_c b h k v l cs1 _ (blkR_blk (hM.get 1 rfl)) hs1 hl_k ho_l hh hn) rfl ?_
  rintro e w3 ⟨v26, rfl, hN⟩
  refine ⟨_, rfl, trivial, ?_⟩; clear hE a; intro a hE
  replace hM : Mem _ _ w3 [_, _, _, _] := hM.call0 hN ⟨rfl, trivial⟩; clear hN
  refine s_assign hE rfl rfl ?_; clear hE a; intro a hE
  refine q_nil ?_
  replace hE : Env a 83 [(0, _), (1, _), (5, _), (6, _), (7, _), (8, _), (24, _)] := hE.sel [0, 1, 5, 6, 7, 8, 24] rfl
  refine hK4 _ _ ?_
  refine wp_seq_k (fun K5 hK5 => ?_)
  refine wp_treeM hM (by kernel_rfl) (fun _ => True) (fun _ => True) (.re [(0, true), (1, true), (2, true), (4, true), (3, true), (5, true), (6, true), (7, false)] (.fl 4 (.weak (.fl 3 (.cut (.or 7 (.cut (.re [] (.weak (.leaf 0)))) (.stop))))))) [(0, true), (1, true), (2, true), (4, true), (3, true), (5, true), (6, true), (7, false)] [(1, [(2, 1), (3, 2), (6, 1), (7, 1)]), (2, [(3, 2), (6, 2), (7, 2)]), (3, [(6, 3), (7, 3)]), (5, [(6, 5), (7, 5)]), (6, [(7, 6)]), (7, [])] (by kernel_rfl) ?_
  intro w4 hM' hww4; clear hM; have hM := hM'; clear hM'
  refine o_re ?_
  refine o_fl rfl ?_
  refine s_move hE rfl rfl ?_; clear hE a; intro a hE
  refine s_nilCheck hE rfl rfl ?_; clear hE a; intro a hE
  refine s_fieldAddr hE rfl fo86_2 rfl ?_; clear hE a; intro a hE
  refine s_move hE rfl rfl ?_; clear hE a; intro a hE
  refine q_nil (q_nx ?_)
  refine o_weak (fun _ => False) (fun _ _ => trivial) ?_
  refine o_fl rfl ?_
  refine s_load1 hE rfl (blkR_blk (hM.get 2 rfl)) rfl one24 (by intro X h; cases h; simp) rfl ?_; clear hE a; intro a hE
  refine s_loadN hE rfl (hM.get 1 rfl) row34 rfl (by intro X h; cases h; simp) rfl ?_; clear hE a; intro a hE
  have hlj33 : q < l.length := (by omega)
  refine s_indexOwn (j := q) hE rfl (hM.get 3 rfl) rfl slt24 (by first | rfl | omega) hlj33 rfl ?_; clear hE a; intro a hE hc33
  refine q_nil (q_nx ?_)
  refine o_cut (fun b => b ∈ valBlocks v) ?_
  refine o_or rfl ?_ ?_
  · replace hM : Mem _ _ w4 [_, _, _, _] := hM.pick [3, 0, 1, 2] rfl
    have hls33 : tg.length = 32 := hl_tg
    refine s_storeOwn (vs := bv tg) hE rfl rfl hM rfl sz34 ((bv_length _).trans hls33) (bv_one _) (by rw [bv_length, hls33]; have := hlj33; omega) (by have := hlj33; omega) (by intro X h; cases h; exact fun _ hb => hb) ?_; intro w5 hM'; clear hM; have hM := hM'; clear hM'
    replace hM := Mem.rowPut (ls := l) (x := tg) (j := q) hM rfl ho_l hls33 hlj33
    have ho_s : OkTs (l.set q tg) := OkTs.set ho_l hl_tg
    refine q_nil (q_nx ?_)
    refine o_cut (fun _ => True) ?_
    refine o_re ?_
    refine o_weak (fun _ => False) (fun _ _ => trivial) ?_
    refine o_leaf rfl rfl ?_
    refine q_nil (q_ph (q_nil ?_))
    replace hE : Env a 83 [(0, _), (1, _), (6, _), (7, _), (8, _), (24, _)] := hE.sel [0, 1, 6, 7, 8, 24] rfl
    refine hK5 _ _ ?_
    refine wp_seq_k (fun K6 hK6 => ?_)
    refine wp_plain [true, false, true] rfl rfl ?_
    refine s_move hE rfl rfl ?_; clear hE a; intro a hE
    obtain ⟨cs2, hs2⟩ := own_rd (hM.get 0 rfl)
    refine s_call hE rfl Tryd.call39 (rall_c b h k v (l.set q tg) cs2 _ (blkR_blk (hM.get 3 rfl)) hs2 hl_k (ok_set ho_l hls33) hh (by simp only [List.length_set, hn])) rfl ?_
    rintro e w6 ⟨v35, rfl, hN⟩
    refine ⟨_, rfl, trivial, ?_⟩; clear hE a; intro a hE
    replace hM : Mem _ _ w6 [_, _, _, _, _] := hM.call0 hN ⟨rfl, trivial⟩; clear hN
    refine s_assign hE rfl rfl ?_; clear hE a; intro a hE
    refine q_nil ?_
    replace hE : Env a 83 [(0, _), (1, _), (6, _), (7, _), (8, _), (9, _), (24, _)] := hE.sel [0, 1, 6, 7, 8, 9, 24] rfl
    refine hK6 _ _ ?_
    refine wp_seq_k (fun K7 hK7 => ?_)
    refine wp_plain [true] rfl rfl ?_
    refine s_assign hE rfl rfl ?_; clear hE a; intro a hE
    refine q_nil ?_
    refine hK7 _ _ ?_
    refine wp_seq_k (fun K8 hK8 => ?_)
    refine wp_plain [true, true, true, true, true, false, true] rfl rfl ?_
    refine s_move hE rfl rfl ?_; clear hE a; intro a hE
    refine s_nilCheck hE rfl rfl ?_; clear hE a; intro a hE
    refine s_fieldAddr hE rfl fo86_1 rfl ?_; clear hE a; intro a hE
    refine s_load1 hE rfl (blkR_blk (hM.get 4 rfl)) rfl one3 (by intro X h; cases h) rfl ?_; clear hE a; intro a hE
    refine s_move hE rfl rfl ?_; clear hE a; intro a hE
    refine s_call hE rfl Tryd.call20 (rpathI_c ((h : Nat) : Int) ((q : Nat) : Int) _) rfl ?_
    rintro e w7 ⟨v41, rfl, hN⟩
    refine ⟨_, rfl, trivial, ?_⟩; clear hE a; intro a hE
    replace hM : Mem _ _ w7 [_, _, _, _, _, _] := hM.call0 hN ⟨rfl, trivial⟩; clear hN
    refine s_assign hE rfl rfl ?_; clear hE a; intro a hE
    refine q_nil ?_
    replace hE : Env a 83 [(0, _), (1, _), (6, _), (7, _), (8, _), (9, _), (10, _), (11, _), (24, _)] := hE.sel [0, 1, 6, 7, 8, 9, 10, 11, 24] rfl
    refine hK8 _ _ ?_
    refine wp_seq_k (fun K9 hK9 => ?_)
    refine wp_seq_k (fun K10 hK10 => ?_)
    refine wp_plain [true] rfl rfl ?_
    refine s_assign hE rfl rfl ?_; clear hE a; intro a hE
    refine q_nil ?_
    refine hK10 _ _ ?_
    refine wp_block ?_
    replace hM := hM.addNil 1
    replace hM := hM.ownEq (m' := ([] : List Nat).length) (cs' := ([] : List Nat).flatMap intC) rfl rfl
    replace hM := Mem.ownRowsEq (f := intC) (ls := ([] : List Nat)) (ms := ((pathZ ((h : Nat) : Int) ((q : Nat) : Int)).take 0).filter (chg (allT k (2 ^ h) l) (allT k (2 ^ h) (l.set q tg)))) hM rfl
    refine c_loop (fun (i : Nat) a w' => i ≤ (pathZ ((h : Nat) : Int) ((q : Nat) : Int)).length ∧ ∃ vl10, Env a 83 [(0, .pointer (some ⟨b, 0, none⟩)), (1, .int .i64 ((q : Nat) : Int)), (6, .slice none 0 0), (7, .int .i64 0), (8, v26), (9, v35), (10, vl10), (11, v41), (12, .int .i64 ((i : Nat) : Int)), (24, .bool false)] ∧ Mem w (valBlocks v) w' [own vl10 1 ((((pathZ ((h : Nat) : Int) ((q : Nat) : Int)).take i).filter (chg (allT k (2 ^ h) l) (allT k (2 ^ h) (l.set q tg)))).length) ((((pathZ ((h : Nat) : Int) ((q : Nat) : Int)).take i).filter (chg (allT k (2 ^ h) l) (allT k (2 ^ h) (l.set q tg)))).flatMap intC), own v41 1 ((pathZ ((h : Nat) : Int) ((q : Nat) : Int)).length) ((pathZ ((h : Nat) : Int) ((q : Nat) : Int)).flatMap intC), own v35 32 ((allT k (2 ^ h) (l.set q tg)).length) ((allT k (2 ^ h) (l.set q tg)).flatMap bv), own v 32 ((l.set q tg).length) ((l.set q tg).flatMap bv), own v26 32 ((allT k (2 ^ h) l).length) ((allT k (2 ^ h) l).flatMap bv), blk b5 [bv tg] [32] 34, blkR b [bv k, [.int .i64 ((h : Nat) : Int)], [v]] [32, 1, 1] 86]) (fun i => (pathZ ((h : Nat) : Int) ((q : Nat) : Int)).length - i) 0 ⟨Nat.zero_le _, _, hE.sel [0, 1, 6, 7, 8, 9, 10, 11, 12, 24] rfl, hM⟩ ?_
    clear hE hM a; rintro i a w8 ⟨hi, vl10, hE, hM⟩
    refine wp_seq_k (fun K11 hK11 => ?_)
    refine wp_seq_k (fun K12 hK12 => ?_)
    refine wp_plain [true, true, true, true] rfl rfl ?_
    refine s_move hE rfl rfl ?_; clear hE a; intro a hE
    refine s_move hE rfl rfl ?_; clear hE a; intro a hE
    refine s_len hE rfl Tryd.underlying35 (own_slice (hM.get 1 rfl)) rfl ?_; clear hE a; intro a hE
    refine s_bin hE rfl rfl bin_lss rfl ?_; clear hE a; intro a hE
    refine q_nil ?_
    replace hE : Env a 83 [(0, _), (1, _), (6, _), (7, _), (8, _), (9, _), (10, _), (11, _), (12, _), (24, _), (45, _)] := hE.sel [0, 1, 6, 7, 8, 9, 10, 11, 12, 24, 45] rfl
    refine hK12 _ _ ?_
    refine hE.split 45 rfl (fun hb45 hE' => ?_) (fun hb45 hE' => ?_)
    · replace hE := hE'; clear hE'
      replace hb45 := of_decide_eq_true hb45
      replace hb45 : i < ((pathZ ((h : Nat) : Int) ((q : Nat) : Int)).length) := by omega
      replace hb45 : i < (pathZ ((h : Nat) : Int) ((q : Nat) : Int)).length := by omega
      refine wp_cond_true (hE.eval rfl) ?_
      refine wp_skip ?_
      refine hK11 _ _ ?_
      refine wp_seq_k (fun K13 hK13 => ?_)
      refine wp_block ?_
      refine wp_seq_k (fun K14 hK14 => ?_)
      refine wp_plain [true, true, true, true, true] rfl rfl ?_
      refine s_move hE rfl rfl ?_; clear hE a; intro a hE
      refine s_move hE rfl rfl ?_; clear hE a; intro a hE
      obtain ⟨cx50, hx50⟩ := own_rd (hM.get 1 rfl)
      refine s_indexRd (j := i) hE rfl hx50 rfl slt35 (by first | rfl | omega) (by first | (rw [hal]; omega) | (rw [hal1]; omega) | omega) rfl ?_; clear hE a; intro a p50 hE hc50 hp50
      have hlj50 : i < (pathZ ((h : Nat) : Int) ((q : Nat) : Int)).length := (by first | (rw [hal]; omega) | (rw [hal1]; omega) | omega)
      have hok50 := pathZ_ok _ (getD_mem (d := 0) hlj50)
      rw [flat_elem (d := 0) (fun x hx => (show (intC _).length = 1 from rfl)) hlj50] at hc50
      replace hc50 : (cellsAt _ [.int .i64 ((((pathZ ((h : Nat) : Int) ((q : Nat) : Int)).getD i 0) : Nat) : Int)]).holds _ := hc50
      refine s_loadAt1 hE rfl hc50 one3 (by intro X h; cases h) rfl ?_; clear hE a; intro a hE
      have hjb : (pathZ ((h : Nat) : Int) ((q : Nat) : Int)).getD i 0 < 2 ^ h := path_num hh hq (by omega)
      have hfl : (((pathZ ((h : Nat) : Int) ((q : Nat) : Int)).take i).filter (chg (allT k (2 ^ h) l) (allT k (2 ^ h) (l.set q tg)))).length ≤ h := Nat.le_trans (List.length_filter_le ..) (by rw [List.length_take]; omega)
      refine s_assign hE rfl rfl ?_; clear hE a; intro a hE
      refine q_nil ?_
      replace hE : Env a 83 [(0, _), (1, _), (6, _), (7, _), (8, _), (9, _), (10, _), (11, _), (12, _), (13, _), (24, _), (45, _)] := hE.sel [0, 1, 6, 7, 8, 9, 10, 11, 12, 13, 24, 45] rfl
      refine hK14 _ _ ?_
      refine wp_seq_k (fun K15 hK15 => ?_)
      refine wp_drawnM hM (by kernel_rfl) (fun _ => False) [(0, true), (1, true), (2, true), (3, true), (4, true), (5, true), (6, true), (7, true), (8, true), (9, true), (10, true), (11, true), (12, true), (13, true), (14, true), (15, true), (16, true), (17, true), (18, true), (19, true), (20, true), (21, true), (22, true), (23, true), (24, true), (25, true)] [] (by kernel_rfl) rfl ?_
      intro w9 hM' hww9; clear hM; have hM := hM'; clear hM'
      refine s_move hE rfl rfl ?_; clear hE a; intro a hE
      refine s_move hE rfl rfl ?_; clear hE a; intro a hE
      refine s_bin hE rfl rfl (show Bin _ _ _ _ _ (.int .i64 ((2 * ((pathZ ((h : Nat) : Int) ((q : Nat) : Int)).getD i 0) : Nat) : Int)) from bin_mul (by rw [wrap_i64 (by omega) (by omega)]; omega)) rfl ?_; clear hE a; intro a hE
      obtain ⟨cx55, hx55⟩ := own_rd (hM.get 4 rfl)
      refine s_indexRd (j := 2 * ((pathZ ((h : Nat) : Int) ((q : Nat) : Int)).getD i 0)) hE rfl hx55 rfl slt24 (by first | rfl | omega) (by first | (rw [hal]; omega) | (rw [hal1]; omega) | omega) rfl ?_; clear hE a; intro a p55 hE hc55 hp55
      have hlj55 : 2 * ((pathZ ((h : Nat) : Int) ((q : Nat) : Int)).getD i 0) < (allT k (2 ^ h) l).length := (by first | (rw [hal]; omega) | (rw [hal1]; omega) | omega)
      have hok55 := (OkTs.all ho_l) _ (getD_mem (d := zTg) hlj55)
      rw [flat_elem (d := zTg) (fun x hx => ((bv_length _).trans ((OkTs.all ho_l) x hx))) hlj55] at hc55
      refine s_loadAtN hE rfl hc55 (by rw [((bv_length _).trans hok55)]; exact row34) (by intro X h; cases h; simp) rfl ?_; clear hE a; intro a hE
      replace hE := hE.cast 56 rfl (show _ = Value.agg (bv ((allT k (2 ^ h) l).getD (2 * ((pathZ ((h : Nat) : Int) ((q : Nat) : Int)).getD i 0)) zTg)).toArray from rfl)
      refine s_move hE rfl rfl ?_; clear hE a; intro a hE
      refine s_move hE rfl rfl ?_; clear hE a; intro a hE
      refine s_bin hE rfl rfl (show Bin _ _ _ _ _ (.int .i64 ((2 * ((pathZ ((h : Nat) : Int) ((q : Nat) : Int)).getD i 0) : Nat) : Int)) from bin_mul (by rw [wrap_i64 (by omega) (by omega)]; omega)) rfl ?_; clear hE a; intro a hE
      obtain ⟨cx60, hx60⟩ := own_rd (hM.get 2 rfl)
      refine s_indexRd (j := 2 * ((pathZ ((h : Nat) : Int) ((q : Nat) : Int)).getD i 0)) hE rfl hx60 rfl slt24 (by first | rfl | omega) (by first | (rw [hal]; omega) | (rw [hal1]; omega) | omega) rfl ?_; clear hE a; intro a p60 hE hc60 hp60
      have hlj60 : 2 * ((pathZ ((h : Nat) : Int) ((q : Nat) : Int)).getD i 0) < (allT k (2 ^ h) (l.set q tg)).length := (by first | (rw [hal]; omega) | (rw [hal1]; omega) | omega)
      have hok60 := (OkTs.all ho_s) _ (getD_mem (d := zTg) hlj60)
      rw [flat_elem (d := zTg) (fun x hx => ((bv_length _).trans ((OkTs.all ho_s) x hx))) hlj60] at hc60
      refine s_loadAtN hE rfl hc60 (by rw [((bv_length _).trans hok60)]; exact row34) (by intro X h; cases h; simp) rfl ?_; clear hE a; intro a hE
      replace hE := hE.cast 61 rfl (show _ = Value.agg (bv ((allT k (2 ^ h) (l.set q tg)).getD (2 * ((pathZ ((h : Nat) : Int) ((q : Nat) : Int)).getD i 0)) zTg)).toArray from rfl)
      refine s_bin hE rfl rfl (eqa34 hok55 hok60).2 rfl ?_; clear hE a; intro a hE
      refine s_move hE rfl rfl ?_; clear hE a; intro a hE
      refine hE.split 63 rfl (fun hb63 hE' => ?_) (fun hb63 hE' => ?_)
      · replace hE := hE'; clear hE'
        replace hb63 := of_decide_eq_false (not_true hb63)
        have hch := chg_l (j := ((pathZ ((h : Nat) : Int) ((q : Nat) : Int)).getD i 0)) hb63
        refine g_no (b := true) hE rfl rfl rfl ?_; clear hE a; intro a hE
        refine g_no (b := true) hE rfl rfl rfl ?_; clear hE a; intro a hE
        refine g_no (b := true) hE rfl rfl rfl ?_; clear hE a; intro a hE
        refine g_no (b := true) hE rfl rfl rfl ?_; clear hE a; intro a hE
        refine g_no (b := true) hE rfl rfl rfl ?_; clear hE a; intro a hE
        refine g_no (b := true) hE rfl rfl rfl ?_; clear hE a; intro a hE
        refine g_no (b := true) hE rfl rfl rfl ?_; clear hE a; intro a hE
        refine g_no (b := true) hE rfl rfl rfl ?_; clear hE a; intro a hE
        refine g_no (b := true) hE rfl rfl rfl ?_; clear hE a; intro a hE
        refine g_no (b := true) hE rfl rfl rfl ?_; clear hE a; intro a hE
        refine g_no (b := true) hE rfl rfl rfl ?_; clear hE a; intro a hE
        refine g_no (b := true) hE rfl rfl rfl ?_; clear hE a; intro a hE
        refine g_no (b := true) hE rfl rfl rfl ?_; clear hE a; intro a hE
        refine s_pickt hE rfl rfl rfl ?_; clear hE a; intro a hE
        refine q_nil ?_
        replace hE : Env a 83 [(0, _), (1, _), (6, _), (7, _), (8, _), (9, _), (10, _), (11, _), (12, _), (13, _), (24, _), (45, _), (77, _)] := hE.sel [0, 1, 6, 7, 8, 9, 10, 11, 12, 13, 24, 45, 77] rfl
        refine hK15 _ _ ?_
        refine wp_cond_true (hE.eval rfl) ?_
        refine wp_plain [true, true, false, false, true] rfl rfl ?_
        refine s_move hE rfl rfl ?_; clear hE a; intro a hE
        refine s_move hE rfl rfl ?_; clear hE a; intro a hE
        refine s_buildSlice (xs := [.tmp 79]) ([.int .i64 ((((pathZ ((h : Nat) : Int) ((q : Nat) : Int)).getD i 0) : Nat) : Int)]) hE hM sl35 rfl rfl rfl (by intro v hv; simp only [List.mem_cons, List.not_mem_nil, or_false] at hv; rcases hv with rfl <;> rfl) rfl rfl rfl rfl ?_; clear hE a; intro a v80 w10 hE hM'
        clear hM; have hM := hM'; clear hM'
        replace hM := hM.ownEq (m' := ([((pathZ ((h : Nat) : Int) ((q : Nat) : Int)).getD i 0)] : List Nat).length) (cs' := ([((pathZ ((h : Nat) : Int) ((q : Nat) : Int)).getD i 0)] : List Nat).flatMap intC) rfl rfl
        replace hM : Mem _ _ w10 [_, _, _, _, _, _, _, _] := hM.pick [1, 0, 2, 3, 4, 5, 6, 7] rfl
        obtain ⟨cq3, hq3⟩ := own_rd (hM.get 1 rfl)
        refine s_append hE rfl rfl hM sl35 (Src.rd Tryd.underlying35 hq3 (intCs_one _)) (len47 (by simp only [List.length_cons, List.length_nil]; omega)) (by simp only [List.length_cons, List.length_nil]; omega) (by intro X h; cases h) rfl ?_; clear hE a; intro a v81 w11 hE hM'; clear hM; have hM := hM'; clear hM'
        replace hM := Mem.ownRowsL (f := intC) (ls := ((pathZ ((h : Nat) : Int) ((q : Nat) : Int)).take i).filter (chg (allT k (2 ^ h) l) (allT k (2 ^ h) (l.set q tg)))) (ms := ([((pathZ ((h : Nat) : Int) ((q : Nat) : Int)).getD i 0)] : List Nat)) hM rfl rfl
        replace hM : Mem _ _ w11 [_, _, _, _, _, _, _] := hM.pick [0, 2, 3, 4, 5, 6, 7] rfl
        refine s_assign hE rfl rfl ?_; clear hE a; intro a hE
        refine q_nil ?_
        replace hE : Env a 83 [(0, _), (1, _), (6, _), (7, _), (8, _), (9, _), (10, _), (11, _), (12, _), (13, _), (24, _), (45, _), (77, _)] := hE.sel [0, 1, 6, 7, 8, 9, 10, 11, 12, 13, 24, 45, 77] rfl
        refine q_block_n ?_
        refine hK13 _ _ ?_
        refine wp_plain [true, true, true] rfl rfl ?_
        refine s_move hE rfl rfl ?_; clear hE a; intro a hE
        refine s_bin hE rfl rfl (show Bin _ _ _ _ _ (.int .i64 ((i + 1 : Nat) : Int)) from bin_add (by rw [wrap_i64 (by omega) (by omega)]; omega)) rfl ?_; clear hE a; intro a hE
        refine s_assign hE rfl rfl ?_; clear hE a; intro a hE
        refine q_nil ?_
        replace hE : Env a 83 [(0, _), (1, _), (6, _), (7, _), (8, _), (9, _), (10, _), (11, _), (12, _), (13, _), (24, _), (45, _), (77, _)] := hE.sel [0, 1, 6, 7, 8, 9, 10, 11, 12, 13, 24, 45, 77] rfl
        replace hE := hE.cast 12 rfl (show _ = Value.int .i64 (((i + 1) : Nat) : Int) from (congrArg _ (by omega)))
        replace hM := Mem.ownRowsEq (f := intC) (ls := (((pathZ ((h : Nat) : Int) ((q : Nat) : Int)).take i).filter (chg (allT k (2 ^ h) l) (allT k (2 ^ h) (l.set q tg)))) ++ ([((pathZ ((h : Nat) : Int) ((q : Nat) : Int)).getD i 0)] : List Nat)) (ms := ((pathZ ((h : Nat) : Int) ((q : Nat) : Int)).take (i + 1)).filter (chg (allT k (2 ^ h) l) (allT k (2 ^ h) (l.set q tg)))) hM (filt_yes (by omega) hch)
        replace hM : Mem _ _ w11 [_, _, _, _, _, _, _] := hM.pick [0, 1, 2, 3, 4, 5, 6] rfl
        exact ⟨i + 1, ⟨by omega, _, hE.sel [0, 1, 6, 7, 8, 9, 10, 11, 12, 24] rfl, hM⟩, by omega⟩
      · replace hE := hE'; clear hE'
        replace hb63 := of_decide_eq_true (not_false' hb63)
        refine g_yes hE rfl rfl ?_
        refine s_move hE rfl rfl ?_; clear hE a; intro a hE
        refine g_yes hE rfl rfl ?_
        refine s_move hE rfl rfl ?_; clear hE a; intro a hE
        refine g_yes hE rfl rfl ?_
        refine s_bin hE rfl rfl (show Bin _ _ _ _ _ (.int .i64 ((2 * ((pathZ ((h : Nat) : Int) ((q : Nat) : Int)).getD i 0) : Nat) : Int)) from bin_mul (by rw [wrap_i64 (by omega) (by omega)]; omega)) rfl ?_; clear hE a; intro a hE
        refine g_yes hE rfl rfl ?_
        refine s_bin hE rfl rfl (show Bin _ _ _ _ _ (.int .i64 (((2 * ((pathZ ((h : Nat) : Int) ((q : Nat) : Int)).getD i 0)) + 1 : Nat) : Int)) from bin_add (by rw [wrap_i64 (by omega) (by omega)]; omega)) rfl ?_; clear hE a; intro a hE
        refine g_yes hE rfl rfl ?_
        obtain ⟨cx68, hx68⟩ := own_rd (hM.get 4 rfl)
        refine s_indexRd (j := (2 * ((pathZ ((h : Nat) : Int) ((q : Nat) : Int)).getD i 0)) + 1) hE rfl hx68 rfl slt24 (by first | rfl | omega) (by first | (rw [hal]; omega) | (rw [hal1]; omega) | omega) rfl ?_; clear hE a; intro a p68 hE hc68 hp68
        have hlj68 : (2 * ((pathZ ((h : Nat) : Int) ((q : Nat) : Int)).getD i 0)) + 1 < (allT k (2 ^ h) l).length := (by first | (rw [hal]; omega) | (rw [hal1]; omega) | omega)
        have hok68 := (OkTs.all ho_l) _ (getD_mem (d := zTg) hlj68)
        rw [flat_elem (d := zTg) (fun x hx => ((bv_length _).trans ((OkTs.all ho_l) x hx))) hlj68] at hc68
        refine g_yes hE rfl rfl ?_
        refine s_loadAtN hE rfl hc68 (by rw [((bv_length _).trans hok68)]; exact row34) (by intro X h; cases h; simp) rfl ?_; clear hE a; intro a hE
        replace hE := hE.cast 69 rfl (show _ = Value.agg (bv ((allT k (2 ^ h) l).getD ((2 * ((pathZ ((h : Nat) : Int) ((q : Nat) : Int)).getD i 0)) + 1) zTg)).toArray from rfl)
        refine g_yes hE rfl rfl ?_
        refine s_move hE rfl rfl ?_; clear hE a; intro a hE
        refine g_yes hE rfl rfl ?_
        refine s_move hE rfl rfl ?_; clear hE a; intro a hE
        refine g_yes hE rfl rfl ?_
        refine s_bin hE rfl rfl (show Bin _ _ _ _ _ (.int .i64 ((2 * ((pathZ ((h : Nat) : Int) ((q : Nat) : Int)).getD i 0) : Nat) : Int)) from bin_mul (by rw [wrap_i64 (by omega) (by omega)]; omega)) rfl ?_; clear hE a; intro a hE
        refine g_yes hE rfl rfl ?_
        refine s_bin hE rfl rfl (show Bin _ _ _ _ _ (.int .i64 (((2 * ((pathZ ((h : Nat) : Int) ((q : Nat) : Int)).getD i 0)) + 1 : Nat) : Int)) from bin_add (by rw [wrap_i64 (by omega) (by omega)]; omega)) rfl ?_; clear hE a; intro a hE
        refine g_yes hE rfl rfl ?_
        obtain ⟨cx74, hx74⟩ := own_rd (hM.get 2 rfl)
        refine s_indexRd (j := (2 * ((pathZ ((h : Nat) : Int) ((q : Nat) : Int)).getD i 0)) + 1) hE rfl hx74 rfl slt24 (by first | rfl | omega) (by first | (rw [hal]; omega) | (rw [hal1]; omega) | omega) rfl ?_; clear hE a; intro a p74 hE hc74 hp74
        have hlj74 : (2 * ((pathZ ((h : Nat) : Int) ((q : Nat) : Int)).getD i 0)) + 1 < (allT k (2 ^ h) (l.set q tg)).length := (by first | (rw [hal]; omega) | (rw [hal1]; omega) | omega)
        have hok74 := (OkTs.all ho_s) _ (getD_mem (d := zTg) hlj74)
        rw [flat_elem (d := zTg) (fun x hx => ((bv_length _).trans ((OkTs.all ho_s) x hx))) hlj74] at hc74
        refine g_yes hE rfl rfl ?_
        refine s_loadAtN hE rfl hc74 (by rw [((bv_length _).trans hok74)]; exact row34) (by intro X h; cases h; simp) rfl ?_; clear hE a; intro a hE
        replace hE := hE.cast 75 rfl (show _ = Value.agg (bv ((allT k (2 ^ h) (l.set q tg)).getD ((2 * ((pathZ ((h : Nat) : Int) ((q : Nat) : Int)).getD i 0)) + 1) zTg)).toArray from rfl)
        refine g_yes hE rfl rfl ?_
        refine s_bin hE rfl rfl (eqa34 hok68 hok74).2 rfl ?_; clear hE a; intro a hE
        refine s_pickf hE rfl rfl rfl ?_; clear hE a; intro a hE
        refine q_nil ?_
        replace hE : Env a 83 [(0, _), (1, _), (6, _), (7, _), (8, _), (9, _), (10, _), (11, _), (12, _), (13, _), (24, _), (45, _), (77, _)] := hE.sel [0, 1, 6, 7, 8, 9, 10, 11, 12, 13, 24, 45, 77] rfl
        refine hK15 _ _ ?_
        refine hE.split 77 rfl (fun hb77 hE' => ?_) (fun hb77 hE' => ?_)
        · replace hE := hE'; clear hE'
          replace hb77 := of_decide_eq_false (not_true hb77)
          have hch := chg_r (j := ((pathZ ((h : Nat) : Int) ((q : Nat) : Int)).getD i 0)) hb77
          refine wp_cond_true (hE.eval rfl) ?_
          refine wp_plain [true, true, false, false, true] rfl rfl ?_
          refine s_move hE rfl rfl ?_; clear hE a; intro a hE
          refine s_move hE rfl rfl ?_; clear hE a; intro a hE
          refine s_buildSlice (xs := [.tmp 79]) ([.int .i64 ((((pathZ ((h : Nat) : Int) ((q : Nat) : Int)).getD i 0) : Nat) : Int)]) hE hM sl35 rfl rfl rfl (by intro v hv; simp only [List.mem_cons, List.not_mem_nil, or_false] at hv; rcases hv with rfl <;> rfl) rfl rfl rfl rfl ?_; clear hE a; intro a v80 w10 hE hM'
          clear hM; have hM := hM'; clear hM'
          replace hM := hM.ownEq (m' := ([((pathZ ((h : Nat) : Int) ((q : Nat) : Int)).getD i 0)] : List Nat).length) (cs' := ([((pathZ ((h : Nat) : Int) ((q : Nat) : Int)).getD i 0)] : List Nat).flatMap intC) rfl rfl
          replace hM : Mem _ _ w10 [_, _, _, _, _, _, _, _] := hM.pick [1, 0, 2, 3, 4, 5, 6, 7] rfl
          obtain ⟨cq4, hq4⟩ := own_rd (hM.get 1 rfl)
          refine s_append hE rfl rfl hM sl35 (Src.rd Tryd.underlying35 hq4 (intCs_one _)) (len47 (by simp only [List.length_cons, List.length_nil]; omega)) (by simp only [List.length_cons, List.length_nil]; omega) (by intro X h; cases h) rfl ?_; clear hE a; intro a v81 w11 hE hM'; clear hM; have hM := hM'; clear hM'
          replace hM := Mem.ownRowsL (f := intC) (ls := ((pathZ ((h : Nat) : Int) ((q : Nat) : Int)).take i).filter (chg (allT k (2 ^ h) l) (allT k (2 ^ h) (l.set q tg)))) (ms := ([((pathZ ((h : Nat) : Int) ((q : Nat) : Int)).getD i 0)] : List Nat)) hM rfl rfl
          replace hM : Mem _ _ w11 [_, _, _, _, _, _, _] := hM.pick [0, 2, 3, 4, 5, 6, 7] rfl
          refine s_assign hE rfl rfl ?_; clear hE a; intro a hE
          refine q_nil ?_
          replace hE : Env a 83 [(0, _), (1, _), (6, _), (7, _), (8, _), (9, _), (10, _), (11, _), (12, _), (13, _), (24, _), (45, _), (77, _)] := hE.sel [0, 1, 6, 7, 8, 9, 10, 11, 12, 13, 24, 45, 77] rfl
          refine q_block_n ?_
          refine hK13 _ _ ?_
          refine wp_plain [true, true, true] rfl rfl ?_
          refine s_move hE rfl rfl ?_; clear hE a; intro a hE
          refine s_bin hE rfl rfl (show Bin _ _ _ _ _ (.int .i64 ((i + 1 : Nat) : Int)) from bin_add (by rw [wrap_i64 (by omega) (by omega)]; omega)) rfl ?_; clear hE a; intro a hE
          refine s_assign hE rfl rfl ?_; clear hE a; intro a hE
          refine q_nil ?_
          replace hE : Env a 83 [(0, _), (1, _), (6, _), (7, _), (8, _), (9, _), (10, _), (11, _), (12, _), (13, _), (24, _), (45, _), (77, _)] := hE.sel [0, 1, 6, 7, 8, 9, 10, 11, 12, 13, 24, 45, 77] rfl
          replace hE := hE.cast 12 rfl (show _ = Value.int .i64 (((i + 1) : Nat) : Int) from (congrArg _ (by omega)))
          replace hM := Mem.ownRowsEq (f := intC) (ls := (((pathZ ((h : Nat) : Int) ((q : Nat) : Int)).take i).filter (chg (allT k (2 ^ h) l) (allT k (2 ^ h) (l.set q tg)))) ++ ([((pathZ ((h : Nat) : Int) ((q : Nat) : Int)).getD i 0)] : List Nat)) (ms := ((pathZ ((h : Nat) : Int) ((q : Nat) : Int)).take (i + 1)).filter (chg (allT k (2 ^ h) l) (allT k (2 ^ h) (l.set q tg)))) hM (filt_yes (by omega) hch)
          replace hM : Mem _ _ w11 [_, _, _, _, _, _, _] := hM.pick [0, 1, 2, 3, 4, 5, 6] rfl
          exact ⟨i + 1, ⟨by omega, _, hE.sel [0, 1, 6, 7, 8, 9, 10, 11, 12, 24] rfl, hM⟩, by omega⟩
        · replace hE := hE'; clear hE'
          replace hb77 := of_decide_eq_true (not_false' hb77)
          have hch := chg_no (j := ((pathZ ((h : Nat) : Int) ((q : Nat) : Int)).getD i 0)) hb63 hb77
          refine wp_cond_false (hE.eval rfl) ?_
          refine wp_skip ?_
          refine q_block_n ?_
          refine hK13 _ _ ?_
          refine wp_plain [true, true, true] rfl rfl ?_
          refine s_move hE rfl rfl ?_; clear hE a; intro a hE
          refine s_bin hE rfl rfl (show Bin _ _ _ _ _ (.int .i64 ((i + 1 : Nat) : Int)) from bin_add (by rw [wrap_i64 (by omega) (by omega)]; omega)) rfl ?_; clear hE a; intro a hE
          refine s_assign hE rfl rfl ?_; clear hE a; intro a hE
          refine q_nil ?_
          replace hE : Env a 83 [(0, _), (1, _), (6, _), (7, _), (8, _), (9, _), (10, _), (11, _), (12, _), (13, _), (24, _), (45, _), (77, _)] := hE.sel [0, 1, 6, 7, 8, 9, 10, 11, 12, 13, 24, 45, 77] rfl
          replace hE := hE.cast 12 rfl (show _ = Value.int .i64 (((i + 1) : Nat) : Int) from (congrArg _ (by omega)))
          replace hM := Mem.ownRowsEq (f := intC) (ls := ((pathZ ((h : Nat) : Int) ((q : Nat) : Int)).take i).filter (chg (allT k (2 ^ h) l) (allT k (2 ^ h) (l.set q tg)))) (ms := ((pathZ ((h : Nat) : Int) ((q : Nat) : Int)).take (i + 1)).filter (chg (allT k (2 ^ h) l) (allT k (2 ^ h) (l.set q tg)))) hM (filt_no (by omega) hch)
          replace hM : Mem _ _ w9 [_, _, _, _, _, _, _] := hM.pick [0, 1, 2, 3, 4, 5, 6] rfl
          exact ⟨i + 1, ⟨by omega, _, hE.sel [0, 1, 6, 7, 8, 9, 10, 11, 12, 24] rfl, hM⟩, by omega⟩
    · replace hE := hE'; clear hE'
      replace hb45 := of_decide_eq_false hb45
      replace hb45 : ¬ (i < ((pathZ ((h : Nat) : Int) ((q : Nat) : Int)).length)) := by omega
      obtain rfl : (pathZ ((h : Nat) : Int) ((q : Nat) : Int)).length = i := by omega
      refine wp_cond_false (hE.eval rfl) ?_
      refine wp_exit ?_
      refine q_then_e ?_
      refine q_then_e ?_
      refine q_block_x ?_
      refine hK9 _ _ ?_
      refine wp_seq_k (fun K13 hK13 => ?_)
      refine wp_plain [true, true, true] rfl rfl ?_
      refine s_move hE rfl rfl ?_; clear hE a; intro a hE
      refine s_assign hE rfl rfl ?_; clear hE a; intro a hE
      refine s_assign hE rfl rfl ?_; clear hE a; intro a hE
      refine q_nil ?_
      replace hE : Env a 83 [(0, _), (1, _), (6, _), (7, _), (8, _), (9, _), (10, _), (11, _), (12, _), (24, _), (45, _)] := hE.sel [0, 1, 6, 7, 8, 9, 10, 11, 12, 24, 45] rfl
      refine hK13 _ _ ?_
      refine wp_ret ?_
      refine f_ret2 hE rfl rfl rfl ?_
      replace hM := Mem.ownRowsEq (f := intC) (ls := ((pathZ ((h : Nat) : Int) ((q : Nat) : Int)).take ((pathZ ((h : Nat) : Int) ((q : Nat) : Int)).length)).filter (chg (allT k (2 ^ h) l) (allT k (2 ^ h) (l.set q tg)))) (ms := chgZ k h l ((q : Nat) : Int) tg) hM (by rw [List.take_length, pathZ_in hh (by omega), chgZ_in (by omega)])
      replace hM : Mem _ _ w8 [_, _, _, _, _, _, _] := hM.pick [3, 0, 1, 2, 4, 5, 6] rfl
      replace hM := Mem.ownRowsEq (f := bv) (ls := l.set q tg) (ms := lvZ l h ((q : Nat) : Int) tg) hM ((lvZ_in (by omega)).symm)
      exact ⟨_, rfl, hM.pick [1, 0] rfl⟩
  trivial
theorem rset_no (b h : Nat) (k : List UInt8) (v : Value) (l : List (List UInt8)) (c : Nat) (z : Int) (tg : List UInt8) (w : World) (hB : (blk b [bv k, [.int .i64 ((h : Nat) : Int)], [v]] [32, 1, 1] 86).holds w) (hS : (rd v 32 l.length c (l.flatMap bv)).holds w) (hl_tg : tg.length = 32) (hl_k : k.length = 32) (ho_l : ∀ x, x ∈ l → x.length = 32) (hh : 1 ≤ h ∧ h ≤ 12) (hn : l.length = 2 ^ h) (hz : ¬ inN 0 (2 ^ h) z) : Calls Tryd.prog 22 #[.pointer (some ⟨b, 0, none⟩), .int .i64 z, .agg (bv tg).toArray] w fun e w' => ∃ v'0, e = .returned (.tuple #[v'0, .int .i64 2]) ∧ Mem w [] w' [own v'0 1 (([] : List Nat).length) (([] : List Nat).flatMap intC)] := by
  have hpw := two_pow_le hh
  have hpw1 := hpw.1
  have hpw2 := hpw.2
  have hM : Mem w [] w [blkR b [bv k, [.int .i64 ((h : Nat) : Int)], [v]] [32, 1, 1] 86, rd v 32 l.length c (l.flatMap bv)] := Mem.startR w (fun g hg => by
    simp only [List.mem_cons, List.not_mem_nil, or_false] at hg
    rcases hg with rfl | rfl
    · exact ⟨hB, rfl⟩
    · exact ⟨hS, rfl⟩)
  refine f_enter 83 Tryd.func22 rfl rfl rfl ?_
  intro a hE
  replace hE : Env a 83 [(0, _), (1, _), (2, _)] := hE
  refine wp_seq_k (fun K1 hK1 => ?_)
  refine wp_plain [false, true, true] rfl rfl ?_
  refine s_box (ss := [bv tg]) [32] hE hM rfl (by simp [Value.cells]) (by simp [*]) rfl ?_; clear hE a; intro a b5 w1 hE hM'
  clear hM; have hM := hM'; clear hM'
  refine s_assign hE rfl rfl ?_; clear hE a; intro a hE
  refine s_assign hE rfl rfl ?_; clear hE a; intro a hE
  refine q_nil ?_
  replace hE : Env a 83 [(0, _), (1, _), (5, _), (6, _), (7, _)] := hE.sel [0, 1, 5, 6, 7] rfl
  refine hK1 _ _ ?_
  refine wp_seq_k (fun K2 hK2 => ?_)
  refine wp_seq_k (fun K3 hK3 => ?_)
  refine wp_plain [true, true, true, true, true, true, true, true, false, true, true] rfl rfl ?_
  refine s_move hE rfl rfl ?_; clear hE a; intro a hE
  refine s_bin hE rfl rfl bin_lss rfl ?_; clear hE a; intro a hE
  refine s_move hE rfl rfl ?_; clear hE a; intro a hE
  refine hE.split 16 rfl (fun hb16 hE' => ?_) (fun hb16 hE' => ?_)
  · replace hE := hE'; clear hE'
    replace hb16 := of_decide_eq_true hb16
    refine g_no (b := true) hE rfl rfl rfl ?_; clear hE a; intro a hE
    refine g_no (b := true) hE rfl rfl rfl ?_; clear hE a; intro a hE
    refine g_no (b := true) hE rfl rfl rfl ?_; clear hE a; intro a hE
    refine g_no (b := true) hE rfl rfl rfl ?_; clear hE a; intro a hE
    refine g_no (b := true) hE rfl rfl rfl ?_; clear hE a; intro a hE
    refine g_no (b := true) hE rfl rfl rfl ?_; clear hE a; intro a hE
    refine g_no (b := true) hE rfl rfl rfl ?_; clear hE a; intro a hE
    refine s_pickt hE rfl rfl rfl ?_; clear hE a; intro a hE
    refine q_nil ?_
    replace hE : Env a 83 [(0, _), (1, _), (5, _), (6, _), (7, _), (24, _)] := hE.sel [0, 1, 5, 6, 7, 24] rfl
    refine hK3 _ _ ?_
    refine wp_cond_true (hE.eval rfl) ?_
    refine wp_seq_k (fun K4 hK4 => ?_)
    refine wp_plain [true, true] rfl rfl ?_
    refine s_assign hE rfl rfl ?_; clear hE a; intro a hE
    refine s_assign hE rfl rfl ?_; clear hE a; intro a hE
    refine q_nil ?_
    refine hK4 _ _ ?_
    refine wp_ret ?_
    refine q_then_r ?_
    refine f_ret2 hE rfl rfl rfl ?_
    replace hM := hM.addNil 1
    replace hM := hM.ownEq (m' := ([] : List Nat).length) (cs' := ([] : List Nat).flatMap intC) rfl rfl
    exact ⟨_, (by first | rfl | (simp; done)), hM.pick [0] rfl⟩
  · replace hE := hE'; clear hE'
    replace hb16 := of_decide_eq_false hb16
    refine g_yes hE rfl rfl ?_
    refine s_move hE rfl rfl ?_; clear hE a; intro a hE
    refine g_yes hE rfl rfl ?_
    refine s_move hE rfl rfl ?_; clear hE a; intro a hE
    refine g_yes hE rfl rfl ?_
    refine s_nilCheck hE rfl rfl ?_; clear hE a; intro a hE
    refine g_yes hE rfl rfl ?_
    refine s_fieldAddr hE rfl fo86_1 rfl ?_; clear hE a; intro a hE
    refine g_yes hE rfl rfl ?_
    refine s_load1 hE rfl (blkR_blk (hM.get 1 rfl)) rfl one3 (by intro X h; cases h) rfl ?_; clear hE a; intro a hE
    refine g_yes hE rfl rfl ?_
    refine s_call hE rfl Tryd.call36 (power_c h _ (by first | omega | assumption | (simp; done) | (simp; omega) | decide)) rfl ?_
    rintro e w2 ⟨rfl, hN⟩
    refine ⟨_, rfl, trivial, ?_⟩; clear hE a; intro a hE
    replace hM : Mem _ _ w2 [_, _, _] := hM.call0 hN trivial; clear hN
    refine g_yes hE rfl rfl ?_
    refine s_bin hE rfl rfl bin_geq rfl ?_; clear hE a; intro a hE
    refine s_pickf hE rfl rfl rfl ?_; clear hE a; intro a hE
    refine q_nil ?_
    replace hE : Env a 83 [(0, _), (1, _), (5, _), (6, _), (7, _), (24, _)] := hE.sel [0, 1, 5, 6, 7, 24] rfl
    refine hK3 _ _ ?_
    replace hE := hE.cast 24 rfl (show _ = Value.bool true from (congrArg Value.bool (decide_eq_true (by omega))))
    refine wp_cond_true (hE.eval rfl) ?_
    refine wp_seq_k (fun K4 hK4 => ?_)
    refine wp_plain [true, true] rfl rfl ?_
    refine s_assign hE rfl rfl ?_; clear hE a; intro a hE
    refine s_assign hE rfl rfl ?_; clear hE a; intro a hE
    refine q_nil ?_
    refine hK4 _ _ ?_
    refine wp_ret ?_
    refine q_then_r ?_
    refine f_ret2 hE rfl rfl rfl ?_
    replace hM := hM.addNil 1
    replace hM := hM.ownEq (m' := ([] : List Nat).length) (cs' := ([] : List Nat).flatMap intC) rfl rfl
    exact ⟨_, (by first | rfl | (simp; done)), hM.pick [0] rfl⟩
theorem rsetI_c (b h : Nat) (k tg : List UInt8) (v : Value) (lv : List (List UInt8)) (z : Int) (w : World) (hB : (blk b [bv k, [.int .i64 ((h : Nat) : Int)], [v]] [32, 1, 1] 86).holds w) (hS : (own v 32 (lv).length ((lv).flatMap bv)).holds w) (hap : ∀ x, x ∈ valBlocks v → x ∉ [b]) (hl_k : k.length = 32) (ho_lv : ∀ x, x ∈ lv → x.length = 32) (hh : 1 ≤ h ∧ h ≤ 12) (hn : lv.length = 2 ^ h) (hl_tg : tg.length = 32) :
    Calls Tryd.prog 22 #[.pointer (some ⟨b, 0, none⟩), .int .i64 z, .agg (bv tg).toArray] w fun e w' => ∃ u, e = .returned (.tuple #[u, .int .i64 ((eZ 0 (2 ^ h) z : Nat) : Int)]) ∧ Mem w (valBlocks v) w' [own u 1 (chgZ k h lv z tg).length ((chgZ k h lv z tg).flatMap intC), own v 32 (lvZ lv h z tg).length ((lvZ lv h z tg).flatMap bv)] := by
  by_cases hz : inN 0 (2 ^ h) z
  · obtain ⟨q, rfl⟩ : ∃ q : Nat, z = (q : Int) := ⟨z.toNat, by omega⟩
    rw [eZ_in hz]
    exact rset_c b h q k tg v _ w hB hS hap hl_k ho_lv hh hn hl_tg (by omega)
  · rw [chgZ_out hz, lvZ_out hz, eZ_out hz]
    obtain ⟨c, hc⟩ := own_rd hS
    refine Calls.mono (rset_no b h k v _ c z tg w hB hc hl_tg hl_k ho_lv hh hn hz) fun e w' he => ?_
    obtain ⟨u, h1, h2⟩ := he
    exact ⟨u, h1, Mem.keepO h2 rfl hS rfl⟩
theorem ints_c (u : Value) (la : List Nat) (ca : Nat) (v : Value) (lb : List Nat) (cb : Nat) (w : World) (hr_la : (rd u 1 la.length ca (la.flatMap intC)).holds w) (ho_la : ∀ x, x ∈ la → x < 4096) (hr_lb : (rd v 1 lb.length cb (lb.flatMap intC)).holds w) (ho_lb : ∀ x, x ∈ lb → x < 4096) (hlx : la.length ≤ 100000000) : Calls Tryd.prog 19 #[u, v] w fun e w' => e = .returned (.bool (decide (la = lb))) ∧ Mem w [] w' [] := by
  have hM : Mem w [] w [rd u 1 la.length ca (la.flatMap intC), rd v 1 lb.length cb (lb.flatMap intC)] := Mem.startR w (fun g hg => by
    simp only [List.mem_cons, List.not_mem_nil, or_false] at hg
    rcases hg with rfl | rfl
    · exact ⟨hr_la, rfl⟩
    · exact ⟨hr_lb, rfl⟩)
  refine f_enter 26 Tryd.func19 rfl rfl rfl ?_
  intro a hE
  replace hE : Env a 26 [(0, _), (1, _)] := hE
  refine wp_seq_k (fun K1 hK1 => ?_)
  refine wp_plain [true] rfl rfl ?_
  refine s_assign hE rfl rfl ?_; clear hE a; intro a hE
  refine q_nil ?_
  refine hK1 _ _ ?_
  refine wp_seq_k (fun K2 hK2 => ?_)
  refine wp_seq_k (fun K3 hK3 => ?_)
  refine wp_plain [true, true, true, true, true] rfl rfl ?_
  refine s_move hE rfl rfl ?_; clear hE a; intro a hE
  refine s_len hE rfl Tryd.underlying35 (rd_slice (hM.get 0 rfl)) rfl ?_; clear hE a; intro a hE
  refine s_move hE rfl rfl ?_; clear hE a; intro a hE
  refine s_len hE rfl Tryd.underlying35 (rd_slice (hM.get 1 rfl)) rfl ?_; clear hE a; intro a hE
  refine s_bin hE rfl rfl bin_neq rfl ?_; clear hE a; intro a hE
  refine q_nil ?_
  replace hE : Env a 26 [(0, _), (1, _), (4, _), (10, _)] := hE.sel [0, 1, 4, 10] rfl
  refine hK3 _ _ ?_
  refine hE.split 10 rfl (fun hb10 hE' => ?_) (fun hb10 hE' => ?_)
  · replace hE := hE'; clear hE'
    replace hb10 := of_decide_eq_false (not_true hb10)
    replace hb10 : ¬ (la.length = lb.length) := by omega
    refine wp_cond_true (hE.eval rfl) ?_
    refine wp_seq_k (fun K4 hK4 => ?_)
    refine wp_plain [true] rfl rfl ?_
    refine s_assign hE rfl rfl ?_; clear hE a; intro a hE
    refine q_nil ?_
    refine hK4 _ _ ?_
    refine wp_ret ?_
    refine q_then_r ?_
    refine f_ret1 hE rfl rfl ?_
    exact ⟨(congrArg (fun b => Ending.returned (Value.bool b)) (decide_eq_false (fun e => hb10 (by rw [e]))).symm), hM.pick [] rfl⟩
  · replace hE := hE'; clear hE'
    replace hb10 := of_decide_eq_true (not_false' hb10)
    replace hb10 : la.length = lb.length := by omega
    have hll : la.length = lb.length := by omega
    refine wp_cond_false (hE.eval rfl) ?_
    refine wp_skip ?_
    refine hK2 _ _ ?_
    refine wp_seq_k (fun K4 hK4 => ?_)
    refine wp_seq_k (fun K5 hK5 => ?_)
    refine wp_plain [true] rfl rfl ?_
    refine s_assign hE rfl rfl ?_; clear hE a; intro a hE
    refine q_nil ?_
    refine hK5 _ _ ?_
    refine wp_block ?_
    refine c_loop (fun (i : Nat) a w' => i ≤ la.length ∧ la.take i = lb.take i ∧ Env a 26 [(0, u), (1, v), (4, .bool false), (5, .int .i64 ((i : Nat) : Int)), (10, .bool false)] ∧ Mem w [] w' [rd u 1 la.length ca (la.flatMap intC), rd v 1 lb.length cb (lb.flatMap intC)]) (fun i => la.length - i) 0 ⟨Nat.zero_le _, rfl, hE.sel [0, 1, 4, 5, 10] rfl, hM⟩ ?_
    clear hE hM a; rintro i a w1 ⟨hi, hpre, hE, hM⟩
    refine wp_seq_k (fun K6 hK6 => ?_)
    refine wp_seq_k (fun K7 hK7 => ?_)
    refine wp_plain [true, true, true, true] rfl rfl ?_
    refine s_move hE rfl rfl ?_; clear hE a; intro a hE
    refine s_move hE rfl rfl ?_; clear hE a; intro a hE
    refine s_len hE rfl Tryd.underlying35 (rd_slice (hM.get 0 rfl)) rfl ?_; clear hE a; intro a hE
    refine s_bin hE rfl rfl bin_lss rfl ?_; clear hE a; intro a hE
    refine q_nil ?_
    replace hE : Env a 26 [(0, _), (1, _), (4, _), (5, _), (10, _), (14, _)] := hE.sel [0, 1, 4, 5, 10, 14] rfl
    refine hK7 _ _ ?_
    refine hE.split 14 rfl (fun hb14 hE' => ?_) (fun hb14 hE' => ?_)
    · replace hE := hE'; clear hE'
      replace hb14 := of_decide_eq_true hb14
      replace hb14 : i < la.length := by omega
      replace hb14 : i < la.length := by omega
      refine wp_cond_true (hE.eval rfl) ?_
      refine wp_skip ?_
      refine hK6 _ _ ?_
      refine wp_seq_k (fun K8 hK8 => ?_)
      refine wp_block ?_
      refine wp_seq_k (fun K9 hK9 => ?_)
      refine wp_drawnM hM (by kernel_rfl) (fun _ => False) [(0, true), (1, true), (2, true), (3, true), (4, true), (5, true), (6, true), (7, true), (8, true)] [] (by kernel_rfl) rfl ?_
      intro w2 hM' hww2; clear hM; have hM := hM'; clear hM'
      refine s_move hE rfl rfl ?_; clear hE a; intro a hE
      refine s_move hE rfl rfl ?_; clear hE a; intro a hE
      refine s_indexRd (j := i) hE rfl (hM.get 0 rfl) rfl slt35 (by first | rfl | omega) (by omega) rfl ?_; clear hE a; intro a p19 hE hc19 hp19
      have hlj19 : i < la.length := (by omega)
      have hok19 := ho_la _ (getD_mem (d := 0) hlj19)
      rw [flat_elem (d := 0) (fun x hx => (show (intC _).length = 1 from rfl)) hlj19] at hc19
      replace hc19 : (cellsAt _ [.int .i64 (((la.getD i 0) : Nat) : Int)]).holds _ := hc19
      refine s_loadAt1 hE rfl hc19 one3 (by intro X h; cases h; simp) rfl ?_; clear hE a; intro a hE
      refine s_move hE rfl rfl ?_; clear hE a; intro a hE
      refine s_move hE rfl rfl ?_; clear hE a; intro a hE
      refine s_indexRd (j := i) hE rfl (hM.get 1 rfl) rfl slt35 (by first | rfl | omega) (by omega) rfl ?_; clear hE a; intro a p23 hE hc23 hp23
      have hlj23 : i < lb.length := (by omega)
      have hok23 := ho_lb _ (getD_mem (d := 0) hlj23)
      rw [flat_elem (d := 0) (fun x hx => (show (intC _).length = 1 from rfl)) hlj23] at hc23
      replace hc23 : (cellsAt _ [.int .i64 (((lb.getD i 0) : Nat) : Int)]).holds _ := hc23
      refine s_loadAt1 hE rfl hc23 one3 (by intro X h; cases h; simp) rfl ?_; clear hE a; intro a hE
      refine s_bin hE rfl rfl bin_neq rfl ?_; clear hE a; intro a hE
      refine q_nil ?_
      replace hE : Env a 26 [(0, _), (1, _), (4, _), (5, _), (10, _), (14, _), (25, _)] := hE.sel [0, 1, 4, 5, 10, 14, 25] rfl
      refine hK9 _ _ ?_
      refine hE.split 25 rfl (fun hb25 hE' => ?_) (fun hb25 hE' => ?_)
      · replace hE := hE'; clear hE'
        replace hb25 := of_decide_eq_false (not_true hb25)
        replace hb25 : ¬ ((la.getD i 0) = (lb.getD i 0)) := by omega
        have hne : la ≠ lb := fun e => hb25 (by rw [e])
        refine wp_cond_true (hE.eval rfl) ?_
        refine wp_seq_k (fun K10 hK10 => ?_)
        refine wp_plain [true] rfl rfl ?_
        refine s_assign hE rfl rfl ?_; clear hE a; intro a hE
        refine q_nil ?_
        refine hK10 _ _ ?_
        refine wp_ret ?_
        refine q_block_r ?_
        refine q_then_r ?_
        refine q_then_r ?_
        refine q_block_r ?_
        refine q_then_r ?_
        refine f_ret1 hE rfl rfl ?_
        exact ⟨(congrArg (fun b => Ending.returned (Value.bool b)) (decide_eq_false hne).symm), hM.pick [] rfl⟩
      · replace hE := hE'; clear hE'
        replace hb25 := of_decide_eq_true (not_false' hb25)
        replace hb25 : (la.getD i 0) = (lb.getD i 0) := by omega
        have hst : la.take (i + 1) = lb.take (i + 1) := by
          rw [take_snocG (d := 0) (by omega), take_snocG (d := 0) (by omega), hpre]
          exact congrArg (fun x => lb.take i ++ [x]) hb25
        refine wp_cond_false (hE.eval rfl) ?_
        refine wp_skip ?_
        refine q_block_n ?_
        refine hK8 _ _ ?_
        refine wp_plain [true, true, true] rfl rfl ?_
        refine s_move hE rfl rfl ?_; clear hE a; intro a hE
        refine s_bin hE rfl rfl (show Bin _ _ _ _ _ (.int .i64 ((i + 1 : Nat) : Int)) from bin_add (by rw [wrap_i64 (by omega) (by omega)]; omega)) rfl ?_; clear hE a; intro a hE
        refine s_assign hE rfl rfl ?_; clear hE a; intro a hE
        refine q_nil ?_
        replace hE : Env a 26 [(0, _), (1, _), (4, _), (5, _), (10, _), (14, _), (25, _)] := hE.sel [0, 1, 4, 5, 10, 14, 25] rfl
        replace hE := hE.cast 5 rfl (show _ = Value.int .i64 (((i + 1) : Nat) : Int) from (congrArg _ (by omega)))
        replace hM : Mem _ _ w2 [_, _] := hM.pick [0, 1] rfl
        exact ⟨i + 1, ⟨by omega, hst, hE.sel [0, 1, 4, 5, 10] rfl, hM⟩, by omega⟩
    · replace hE := hE'; clear hE'
      replace hb14 := of_decide_eq_false hb14
      replace hb14 : ¬ (i < la.length) := by omega
      obtain rfl : la.length = i := by omega
      refine wp_cond_false (hE.eval rfl) ?_
      refine wp_exit ?_
      refine q_then_e ?_
      refine q_then_e ?_
      refine q_block_x ?_
      refine hK4 _ _ ?_
      refine wp_seq_k (fun K8 hK8 => ?_)
      refine wp_plain [true] rfl rfl ?_
      refine s_assign hE rfl rfl ?_; clear hE a; intro a hE
      refine q_nil ?_
      refine hK8 _ _ ?_
      refine wp_ret ?_
      refine f_ret1 hE rfl rfl ?_
      exact ⟨(congrArg (fun b => Ending.returned (Value.bool b)) (decide_eq_true (by rw [← List.take_length (l := la), hpre, hll, List.take_length])).symm), hM.pick [] rfl⟩
theorem same_c (u : Value) (la : List (List UInt8)) (ca : Nat) (v : Value) (lb : List (List UInt8)) (cb : Nat) (w : World) (hr_la : (rd u 64 la.length ca (la.flatMap bv)).holds w) (ho_la : ∀ x, x ∈ la → x.length = 64) (hr_lb : (rd v 64 lb.length cb (lb.flatMap bv)).holds w) (ho_lb : ∀ x, x ∈ lb → x.length = 64) (hlx : la.length ≤ 100000000) : Calls Tryd.prog 27 #[u, v] w fun e w' => e = .returned (.bool (decide (la = lb))) ∧ Mem w [] w' [] := by
  have hM : Mem w [] w [rd u 64 la.length ca (la.flatMap bv), rd v 64 lb.length cb (lb.flatMap bv)] := Mem.startR w (fun g hg => by
    simp only [List.mem_cons, List.not_mem_nil, or_false] at hg
    rcases hg with rfl | rfl
    · exact ⟨hr_la, rfl⟩
    · exact ⟨hr_lb, rfl⟩)
  refine f_enter 26 Tryd.func27 rfl rfl rfl ?_
  intro a hE
  replace hE : Env a 26 [(0, _), (1, _)] := hE
  refine wp_seq_k (fun K1 hK1 => ?_)
  refine wp_plain [true] rfl rfl ?_
  refine s_assign hE rfl rfl ?_; clear hE a; intro a hE
  refine q_nil ?_
  refine hK1 _ _ ?_
  refine wp_seq_k (fun K2 hK2 => ?_)
  refine wp_seq_k (fun K3 hK3 => ?_)
  refine wp_plain [true, true, true, true, true] rfl rfl ?_
  refine s_move hE rfl rfl ?_; clear hE a; intro a hE
  refine s_len hE rfl Tryd.underlying44 (rd_slice (hM.get 0 rfl)) rfl ?_; clear hE a; intro a hE
  refine s_move hE rfl rfl ?_; clear hE a; intro a hE
  refine s_len hE rfl Tryd.underlying44 (rd_slice (hM.get 1 rfl)) rfl ?_; clear hE a; intro a hE
  refine s_bin hE rfl rfl bin_neq rfl ?_; clear hE a; intro a hE
  refine q_nil ?_
  replace hE : Env a 26 [(0, _), (1, _), (4, _), (10, _)] := hE.sel [0, 1, 4, 10] rfl
  refine hK3 _ _ ?_
  refine hE.split 10 rfl (fun hb10 hE' => ?_) (fun hb10 hE' => ?_)
  · replace hE := hE'; clear hE'
    replace hb10 := of_decide_eq_false (not_true hb10)
    replace hb10 : ¬ (la.length = lb.length) := by omega
    refine wp_cond_true (hE.eval rfl) ?_
    refine wp_seq_k (fun K4 hK4 => ?_)
    refine wp_plain [true] rfl rfl ?_
    refine s_assign hE rfl rfl ?_; clear hE a; intro a hE
    refine q_nil ?_
    refine hK4 _ _ ?_
    refine wp_ret ?_
    refine q_then_r ?_
    refine f_ret1 hE rfl rfl ?_
    exact ⟨(congrArg (fun b => Ending.returned (Value.bool b)) (decide_eq_false (fun e => hb10 (by rw [e]))).symm), hM.pick [] rfl⟩
  · replace hE := hE'; clear hE'
    replace hb10 := of_decide_eq_true (not_false' hb10)
    replace hb10 : la.length = lb.length := by omega
    have hll : la.length = lb.length := by omega
    refine wp_cond_false (hE.eval rfl) ?_
    refine wp_skip ?_
    refine hK2 _ _ ?_
    refine wp_seq_k (fun K4 hK4 => ?_)
    refine wp_seq_k (fun K5 hK5 => ?_)
    refine wp_plain [true] rfl rfl ?_
    refine s_assign hE rfl rfl ?_; clear hE a; intro a hE
    refine q_nil ?_
    refine hK5 _ _ ?_
    refine wp_block ?_
    refine c_loop (fun (i : Nat) a w' => i ≤ la.length ∧ la.take i = lb.take i ∧ Env a 26 [(0, u), (1, v), (4, .bool false), (5, .int .i64 ((i : Nat) : Int)), (10, .bool false)] ∧ Mem w [] w' [rd u 64 la.length ca (la.flatMap bv), rd v 64 lb.length cb (lb.flatMap bv)]) (fun i => la.length - i) 0 ⟨Nat.zero_le _, rfl, hE.sel [0, 1, 4, 5, 10] rfl, hM⟩ ?_
    clear hE hM a; rintro i a w1 ⟨hi, hpre, hE, hM⟩
    refine wp_seq_k (fun K6 hK6 => ?_)
    refine wp_seq_k (fun K7 hK7 => ?_)
    refine wp_plain [true, true, true, true] rfl rfl ?_
    refine s_move hE rfl rfl ?_; clear hE a; intro a hE
    refine s_move hE rfl rfl ?_; clear hE a; intro a hE
    refine s_len hE rfl Tryd.underlying44 (rd_slice (hM.get 0 rfl)) rfl ?_; clear hE a; intro a hE
    refine s_bin hE rfl rfl bin_lss rfl ?_; clear hE a; intro a hE
    refine q_nil ?_
    replace hE : Env a 26 [(0, _), (1, _), (4, _), (5, _), (10, _), (14, _)] := hE.sel [0, 1, 4, 5, 10, 14] rfl
    refine hK7 _ _ ?_
    refine hE.split 14 rfl (fun hb14 hE' => ?_) (fun hb14 hE' => ?_)
    · replace hE := hE'; clear hE'
      replace hb14 := of_decide_eq_true hb14
      replace hb14 : i < la.length := by omega
      replace hb14 : i < la.length := by omega
      refine wp_cond_true (hE.eval rfl) ?_
      refine wp_skip ?_
      refine hK6 _ _ ?_
      refine wp_seq_k (fun K8 hK8 => ?_)
      refine wp_block ?_
      refine wp_seq_k (fun K9 hK9 => ?_)
      refine wp_drawnM hM (by kernel_rfl) (fun _ => False) [(0, true), (1, true), (2, true), (3, true), (4, true), (5, true), (6, true), (7, true), (8, true)] [] (by kernel_rfl) rfl ?_
      intro w2 hM' hww2; clear hM; have hM := hM'; clear hM'
      refine s_move hE rfl rfl ?_; clear hE a; intro a hE
      refine s_move hE rfl rfl ?_; clear hE a; intro a hE
      refine s_indexRd (j := i) hE rfl (hM.get 0 rfl) rfl slt44 (by first | rfl | omega) (by omega) rfl ?_; clear hE a; intro a p19 hE hc19 hp19
      have hlj19 : i < la.length := (by omega)
      have hok19 := ho_la _ (getD_mem (d := zSc) hlj19)
      rw [flat_elem (d := zSc) (fun x hx => ((bv_length _).trans (ho_la x hx))) hlj19] at hc19
      refine s_loadAtN hE rfl hc19 (by rw [((bv_length _).trans hok19)]; exact row52) (by intro X h; cases h; simp) rfl ?_; clear hE a; intro a hE
      replace hE := hE.cast 20 rfl (show _ = Value.agg (bv (la.getD i zSc)).toArray from rfl)
      refine s_move hE rfl rfl ?_; clear hE a; intro a hE
      refine s_move hE rfl rfl ?_; clear hE a; intro a hE
      refine s_indexRd (j := i) hE rfl (hM.get 1 rfl) rfl slt44 (by first | rfl | omega) (by omega) rfl ?_; clear hE a; intro a p23 hE hc23 hp23
      have hlj23 : i < lb.length := (by omega)
      have hok23 := ho_lb _ (getD_mem (d := zSc) hlj23)
      rw [flat_elem (d := zSc) (fun x hx => ((bv_length _).trans (ho_lb x hx))) hlj23] at hc23
      refine s_loadAtN hE rfl hc23 (by rw [((bv_length _).trans hok23)]; exact row52) (by intro X h; cases h; simp) rfl ?_; clear hE a; intro a hE
      replace hE := hE.cast 24 rfl (show _ = Value.agg (bv (lb.getD i zSc)).toArray from rfl)
      refine s_bin hE rfl rfl (eqa52 hok19 hok23).2 rfl ?_; clear hE a; intro a hE
      refine q_nil ?_
      replace hE : Env a 26 [(0, _), (1, _), (4, _), (5, _), (10, _), (14, _), (25, _)] := hE.sel [0, 1, 4, 5, 10, 14, 25] rfl
      refine hK9 _ _ ?_
      refine hE.split 25 rfl (fun hb25 hE' => ?_) (fun hb25 hE' => ?_)
      · replace hE := hE'; clear hE'
        replace hb25 := of_decide_eq_false (not_true hb25)
        have hne : la ≠ lb := fun e => hb25 (by rw [e])
        refine wp_cond_true (hE.eval rfl) ?_
        refine wp_seq_k (fun K10 hK10 => ?_)
        refine wp_plain [true] rfl rfl ?_
        refine s_assign hE rfl rfl ?_; clear hE a; intro a hE
        refine q_nil ?_
        refine hK10 _ _ ?_
        refine wp_ret ?_
        refine q_block_r ?_
        refine q_then_r ?_
        refine q_then_r ?_
        refine q_block_r ?_
        refine q_then_r ?_
        refine f_ret1 hE rfl rfl ?_
        exact ⟨(congrArg (fun b => Ending.returned (Value.bool b)) (decide_eq_false hne).symm), hM.pick [] rfl⟩
      · replace hE := hE'; clear hE'
        replace hb25 := of_decide_eq_true (not_false' hb25)
        have hst : la.take (i + 1) = lb.take (i + 1) := by
          rw [take_snocG (d := zSc) (by omega), take_snocG (d := zSc) (by omega), hpre]
          exact congrArg (fun x => lb.take i ++ [x]) hb25
        refine wp_cond_false (hE.eval rfl) ?_
        refine wp_skip ?_
        refine q_block_n ?_
        refine hK8 _ _ ?_
        refine wp_plain [true, true, true] rfl rfl ?_
        refine s_move hE rfl rfl ?_; clear hE a; intro a hE
        refine s_bin hE rfl rfl (show Bin _ _ _ _ _ (.int .i64 ((i + 1 : Nat) : Int)) from bin_add (by rw [wrap_i64 (by omega) (by omega)]; omega)) rfl ?_; clear hE a; intro a hE
        refine s_assign hE rfl rfl ?_; clear hE a; intro a hE
        refine q_nil ?_
        replace hE : Env a 26 [(0, _), (1, _), (4, _), (5, _), (10, _), (14, _), (25, _)] := hE.sel [0, 1, 4, 5, 10, 14, 25] rfl
        replace hE := hE.cast 5 rfl (show _ = Value.int .i64 (((i + 1) : Nat) : Int) from (congrArg _ (by omega)))
        replace hM : Mem _ _ w2 [_, _] := hM.pick [0, 1] rfl
        exact ⟨i + 1, ⟨by omega, hst, hE.sel [0, 1, 4, 5, 10] rfl, hM⟩, by omega⟩
    · replace hE := hE'; clear hE'
      replace hb14 := of_decide_eq_false hb14
      replace hb14 : ¬ (i < la.length) := by omega
      obtain rfl : la.length = i := by omega
      refine wp_cond_false (hE.eval rfl) ?_
      refine wp_exit ?_
      refine q_then_e ?_
      refine q_then_e ?_
      refine q_block_x ?_
      refine hK4 _ _ ?_
      refine wp_seq_k (fun K8 hK8 => ?_)
      refine wp_plain [true] rfl rfl ?_
      refine s_assign hE rfl rfl ?_; clear hE a; intro a hE
      refine q_nil ?_
      refine hK8 _ _ ?_
      refine wp_ret ?_
      refine f_ret1 hE rfl rfl ?_
      exact ⟨(congrArg (fun b => Ending.returned (Value.bool b)) (decide_eq_true (by rw [← List.take_length (l := la), hpre, hll, List.take_length])).symm), hM.pick [] rfl⟩
end Go.Proofs.YtacebdngbalkmaaDoor
