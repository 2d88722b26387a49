/- Walks of functions of the given program that the claim reaches. -/
import Derived.Test.YtlieojojahhmmaaLh
set_option linter.unusedSimpArgs false
set_option linter.unusedVariables false
namespace Go.Proofs.Ytlieojojahhmmaa
open Go Go.Kx

theorem rgetroot_bad1 (v : Value) (bs : List UInt8) (c : Nat) (w : World) (hr_bs : (rd v 1 bs.length c (bv bs)).holds w) (hl : bs.length = 128) (hro : rootOk (val ((bs.drop 8).take 8)) (val ((bs.drop 112).take 4) : Nat) (val ((bs.drop 116).take 4) : Nat) = false) : Calls Try.prog 29 #[v] w fun e w' => e = .returned (.tuple #[.agg ([[.int .u64 0], bv (List.replicate 32 (0 : UInt8)), bv (List.replicate 32 (0 : UInt8)), bv (List.replicate 32 (0 : UInt8)), [.int .i64 0], [.int .i64 0]] : List (List Value)).flatten.toArray, .int .i64 4]) ∧ Mem w [] w' [] := by
  have hv4a := val4 (l := (bs.drop 112).take 4) (by simp [hl])
  have hv4b := val4 (l := (bs.drop 116).take 4) (by simp [hl])
  have hv8 := val8 (l := (bs.drop 8).take 8) (by simp [hl])
  have hM : Mem w [] w [rd v 1 bs.length c (bv bs)] := Mem.startR w (fun g hg => by
    simp only [List.mem_cons, List.not_mem_nil, or_false] at hg
    rcases hg with rfl
    · exact ⟨hr_bs, rfl⟩)
  refine f_enter 48 Try.func29 rfl rfl rfl ?_
  intro a hE
  replace hE : Env a 48 [(0, _)] := hE
  refine wp_seq_k (fun K1 hK1 => ?_)
  refine wp_plain [false, true] rfl rfl ?_
  refine s_alloc [1, 32, 32, 32, 1, 1] hE hM zero67 rfl rfl ?_; clear hE a; intro a b2 w1 hE hM'
  clear hM; have hM := hM'; clear hM'
  refine s_assign hE rfl rfl ?_; clear hE a; intro a hE
  refine q_nil ?_
  refine hK1 _ _ ?_
  refine wp_seq_k (fun K2 hK2 => ?_)
  refine wp_seq_k (fun K3 hK3 => ?_)
  refine wp_plain [true, true, true] rfl rfl ?_
  refine s_move hE rfl rfl ?_; clear hE a; intro a hE
  refine s_len hE rfl Try.underlying55 (rd_slice (hM.get 1 rfl)) rfl ?_; clear hE a; intro a hE
  replace hE := hE.cast 8 rfl (show _ = Value.int .i64 ((128 : Nat) : Int) from (congrArg (fun n : Nat => Value.int .i64 (n : Int)) hl))
  refine s_bin hE rfl rfl bin_neq rfl ?_; clear hE a; intro a hE
  replace hE := hE.cast 9 rfl (show _ = Value.bool false from (congrArg Value.bool (by decide)))
  refine q_nil ?_
  replace hE : Env a 48 [(0, _), (2, _), (3, _), (9, _)] := hE.sel [0, 2, 3, 9] rfl
  refine hK3 _ _ ?_
  refine wp_cond_false (hE.eval rfl) ?_
  refine wp_skip ?_
  refine hK2 _ _ ?_
  refine wp_seq_k (fun K4 hK4 => ?_)
  refine wp_treeM hM (by kernel_rfl) (fun _ => True) (fun _ => True) (.re [(0, true), (1, true), (3, true), (4, true), (6, true), (7, true), (9, true), (10, true), (12, true), (13, true), (16, true), (17, true), (2, false), (5, false), (8, false), (11, false), (14, false), (15, true), (18, false), (19, true), (20, true), (21, false), (22, false)] (.fl 12 (.fl 0 (.or 2 (.re [(5, false), (8, false), (11, false), (14, false), (15, true), (18, false), (19, true), (20, true), (21, false), (22, false)] (.fl 0 (.fl 0 (.or 5 (.re [(8, false), (11, false), (14, false), (15, true), (18, false), (19, true), (20, true), (21, false), (22, false)] (.fl 0 (.fl 0 (.or 8 (.re [(11, false), (14, false), (15, true), (18, false), (19, true), (20, true), (21, false), (22, false)] (.fl 0 (.fl 0 (.or 11 (.re [(14, false), (15, true), (18, false), (19, true), (20, true), (21, false), (22, false)] (.fl 0 (.fl 0 (.or 14 (.re [(15, true), (18, false), (19, true), (20, true), (21, false), (22, false)] (.fl 1 (.fl 0 (.or 18 (.re [(19, true), (20, true), (21, false), (22, false)] (.fl 2 (.fl 0 (.or 21 (.re [(22, false)] (.fl 0 (.fl 0 (.weak (.or 22 (.cut (.re [] (.weak (.leaf 0)))) (.stop)))))) (.stop))))) (.or 21 (.re [(18, false), (19, true), (20, true), (22, false)] (.fl 0 (.fl 0 (.or 18 (.re [(19, true), (20, true), (22, false)] (.fl 2 (.fl 0 (.weak (.or 22 (.cut (.re [] (.weak (.leaf 0)))) (.stop)))))) (.stop))))) (.stop)))))) (.or 21 (.re [(14, false), (15, true), (18, false), (19, true), (20, true), (22, false)] (.fl 0 (.fl 0 (.or 14 (.re [(15, true), (18, false), (19, true), (20, true), (22, false)] (.fl 1 (.fl 0 (.or 18 (.re [(19, true), (20, true), (22, false)] (.fl 2 (.fl 0 (.weak (.or 22 (.cut (.re [] (.weak (.leaf 0)))) (.stop)))))) (.stop))))) (.stop))))) (.stop)))))) (.or 21 (.re [(11, false), (14, false), (15, true), (18, false), (19, true), (20, true), (22, false)] (.fl 0 (.fl 0 (.or 11 (.re [(14, false), (15, true), (18, false), (19, true), (20, true), (22, false)] (.fl 0 (.fl 0 (.or 14 (.re [(15, true), (18, false), (19, true), (20, true), (22, false)] (.fl 1 (.fl 0 (.or 18 (.re [(19, true), (20, true), (22, false)] (.fl 2 (.fl 0 (.weak (.or 22 (.cut (.re [] (.weak (.leaf 0)))) (.stop)))))) (.stop))))) (.stop))))) (.stop))))) (.stop)))))) (.or 21 (.re [(8, false), (11, false), (14, false), (15, true), (18, false), (19, true), (20, true), (22, false)] (.fl 0 (.fl 0 (.or 8 (.re [(11, false), (14, false), (15, true), (18, false), (19, true), (20, true), (22, false)] (.fl 0 (.fl 0 (.or 11 (.re [(14, false), (15, true), (18, false), (19, true), (20, true), (22, false)] (.fl 0 (.fl 0 (.or 14 (.re [(15, true), (18, false), (19, true), (20, true), (22, false)] (.fl 1 (.fl 0 (.or 18 (.re [(19, true), (20, true), (22, false)] (.fl 2 (.fl 0 (.weak (.or 22 (.cut (.re [] (.weak (.leaf 0)))) (.stop)))))) (.stop))))) (.stop))))) (.stop))))) (.stop))))) (.stop)))))) (.or 21 (.re [(5, false), (8, false), (11, false), (14, false), (15, true), (18, false), (19, true), (20, true), (22, false)] (.fl 0 (.fl 0 (.or 5 (.re [(8, false), (11, false), (14, false), (15, true), (18, false), (19, true), (20, true), (22, false)] (.fl 0 (.fl 0 (.or 8 (.re [(11, false), (14, false), (15, true), (18, false), (19, true), (20, true), (22, false)] (.fl 0 (.fl 0 (.or 11 (.re [(14, false), (15, true), (18, false), (19, true), (20, true), (22, false)] (.fl 0 (.fl 0 (.or 14 (.re [(15, true), (18, false), (19, true), (20, true), (22, false)] (.fl 1 (.fl 0 (.or 18 (.re [(19, true), (20, true), (22, false)] (.fl 2 (.fl 0 (.weak (.or 22 (.cut (.re [] (.weak (.leaf 0)))) (.stop)))))) (.stop))))) (.stop))))) (.stop))))) (.stop))))) (.stop))))) (.stop)))))) (.or 21 (.re [(2, false), (5, false), (8, false), (11, false), (14, false), (15, true), (18, false), (19, true), (20, true), (22, false)] (.fl 0 (.fl 0 (.or 2 (.re [(5, false), (8, false), (11, false), (14, false), (15, true), (18, false), (19, true), (20, true), (22, false)] (.fl 0 (.fl 0 (.or 5 (.re [(8, false), (11, false), (14, false), (15, true), (18, false), (19, true), (20, true), (22, false)] (.fl 0 (.fl 0 (.or 8 (.re [(11, false), (14, false), (15, true), (18, false), (19, true), (20, true), (22, false)] (.fl 0 (.fl 0 (.or 11 (.re [(14, false), (15, true), (18, false), (19, true), (20, true), (22, false)] (.fl 0 (.fl 0 (.or 14 (.re [(15, true), (18, false), (19, true), (20, true), (22, false)] (.fl 1 (.fl 0 (.or 18 (.re [(19, true), (20, true), (22, false)] (.fl 2 (.fl 0 (.weak (.or 22 (.cut (.re [] (.weak (.leaf 0)))) (.stop)))))) (.stop))))) (.stop))))) (.stop))))) (.stop))))) (.stop))))) (.stop))))) (.stop)))))) [(0, true), (1, true), (3, true), (4, true), (6, true), (7, true), (9, true), (10, true), (12, true), (13, true), (16, true), (17, true), (2, false), (5, false), (8, false), (11, false), (14, false), (15, true), (18, false), (19, true), (20, true), (21, false), (22, false)] [(1, [(2, 1), (5, 2), (8, 5), (11, 8), (14, 11), (15, 14), (18, 14), (19, 18), (20, 2), (22, 1)]), (2, [(5, 2), (8, 5), (11, 8), (14, 11), (15, 14), (18, 14), (19, 18), (20, 2), (22, 2)]), (4, [(5, 4), (8, 5), (11, 8), (14, 11), (15, 14), (18, 14), (19, 18), (20, 5), (22, 4)]), (5, [(8, 5), (11, 8), (14, 11), (15, 14), (18, 14), (19, 18), (20, 5), (22, 5)]), (7, [(8, 7), (11, 8), (14, 11), (15, 14), (18, 14), (19, 18), (20, 8), (22, 7)]), (8, [(11, 8), (14, 11), (15, 14), (18, 14), (19, 18), (20, 8), (22, 8)]), (10, [(11, 10), (14, 11), (15, 14), (18, 14), (19, 18), (20, 11), (22, 10)]), (11, [(14, 11), (15, 14), (18, 14), (19, 18), (20, 11), (22, 11)]), (13, [(14, 13), (15, 14), (18, 14), (19, 18), (20, 15), (22, 13)]), (14, [(15, 14), (18, 14), (19, 18), (20, 15), (22, 14)]), (15, [(20, 15), (22, 15)]), (17, [(18, 17), (19, 18), (20, 19), (22, 17)]), (18, [(19, 18), (20, 19), (22, 18)]), (19, [(20, 19), (22, 19)]), (20, [(22, 20)]), (21, [(22, 21)]), (22, [])] (by kernel_rfl) ?_
  intro w2 hM' hww2; clear hM; have hM := hM'; clear hM'
  refine o_re ?_
  refine o_fl rfl ?_
  refine s_move hE rfl rfl ?_; clear hE a; intro a hE
  have hcap12 := rd_len (hM.get 1 rfl)
  refine s_slice (l := 8) (h := 16) (mx' := c) hE rfl (hM.get 1 rfl) slt55 ⟨_, rfl⟩ ⟨_, rfl⟩ rfl (by simp) (by have hl_ : bs.length = 128 := hl; first | omega | assumption | (simp; done) | (simp; omega) | decide) (by have hl_ : bs.length = 128 := hl; first | omega | assumption | (simp; done) | (simp; omega) | decide) (by have hl_ : bs.length = 128 := hl; first | omega | assumption | (simp; done) | (simp; omega) | decide) (by have hl_ : bs.length = 128 := hl; first | omega | assumption | (simp; done) | (simp; omega) | decide) rfl ?_; clear hE a; intro a v12 hE hr12 hvb12
  replace hr12 : (rd v12 1 ((bs.drop 8).take 8).length (c - 8) (bv ((bs.drop 8).take 8))).holds _ := rd_mid (by first | omega | assumption | (simp; done) | (simp; omega) | decide) hr12
  replace hM := hM.addPart 1 rfl hr12 hvb12; clear hr12
  refine s_move hE rfl rfl ?_; clear hE a; intro a hE
  have hcap15 := rd_len (hM.get 2 rfl)
  refine s_slice (l := 16) (h := 48) (mx' := c) hE rfl (hM.get 2 rfl) slt55 ⟨_, rfl⟩ ⟨_, rfl⟩ rfl (by simp) (by have hl_ : bs.length = 128 := hl; first | omega | assumption | (simp; done) | (simp; omega) | decide) (by have hl_ : bs.length = 128 := hl; first | omega | assumption | (simp; done) | (simp; omega) | decide) (by have hl_ : bs.length = 128 := hl; first | omega | assumption | (simp; done) | (simp; omega) | decide) (by have hl_ : bs.length = 128 := hl; first | omega | assumption | (simp; done) | (simp; omega) | decide) rfl ?_; clear hE a; intro a v15 hE hr15 hvb15
  replace hr15 : (rd v15 1 ((bs.drop 16).take 32).length (c - 16) (bv ((bs.drop 16).take 32))).holds _ := rd_mid (by first | omega | assumption | (simp; done) | (simp; omega) | decide) hr15
  replace hM := hM.addPart 2 rfl hr15 hvb15; clear hr15
  refine s_move hE rfl rfl ?_; clear hE a; intro a hE
  have hcap18 := rd_len (hM.get 3 rfl)
  refine s_slice (l := 48) (h := 80) (mx' := c) hE rfl (hM.get 3 rfl) slt55 ⟨_, rfl⟩ ⟨_, rfl⟩ rfl (by simp) (by have hl_ : bs.length = 128 := hl; first | omega | assumption | (simp; done) | (simp; omega) | decide) (by have hl_ : bs.length = 128 := hl; first | omega | assumption | (simp; done) | (simp; omega) | decide) (by have hl_ : bs.length = 128 := hl; first | omega | assumption | (simp; done) | (simp; omega) | decide) (by have hl_ : bs.length = 128 := hl; first | omega | assumption | (simp; done) | (simp; omega) | decide) rfl ?_; clear hE a; intro a v18 hE hr18 hvb18
  replace hr18 : (rd v18 1 ((bs.drop 48).take 32).length (c - 48) (bv ((bs.drop 48).take 32))).holds _ := rd_mid (by first | omega | assumption | (simp; done) | (simp; omega) | decide) hr18
  replace hM := hM.addPart 3 rfl hr18 hvb18; clear hr18
  refine s_move hE rfl rfl ?_; clear hE a; intro a hE
  have hcap21 := rd_len (hM.get 4 rfl)
  refine s_slice (l := 80) (h := 112) (mx' := c) hE rfl (hM.get 4 rfl) slt55 ⟨_, rfl⟩ ⟨_, rfl⟩ rfl (by simp) (by have hl_ : bs.length = 128 := hl; first | omega | assumption | (simp; done) | (simp; omega) | decide) (by have hl_ : bs.length = 128 := hl; first | omega | assumption | (simp; done) | (simp; omega) | decide) (by have hl_ : bs.length = 128 := hl; first | omega | assumption | (simp; done) | (simp; omega) | decide) (by have hl_ : bs.length = 128 := hl; first | omega | assumption | (simp; done) | (simp; omega) | decide) rfl ?_; clear hE a; intro a v21 hE hr21 hvb21
  replace hr21 : (rd v21 1 ((bs.drop 80).take 32).length (c - 80) (bv ((bs.drop 80).take 32))).holds _ := rd_mid (by first | omega | assumption | (simp; done) | (simp; omega) | decide) hr21
  replace hM := hM.addPart 4 rfl hr21 hvb21; clear hr21
  refine s_move hE rfl rfl ?_; clear hE a; intro a hE
  have hcap24 := rd_len (hM.get 5 rfl)
  refine s_slice (l := 112) (h := 116) (mx' := c) hE rfl (hM.get 5 rfl) slt55 ⟨_, rfl⟩ ⟨_, rfl⟩ rfl (by simp) (by have hl_ : bs.length = 128 := hl; first | omega | assumption | (simp; done) | (simp; omega) | decide) (by have hl_ : bs.length = 128 := hl; first | omega | assumption | (simp; done) | (simp; omega) | decide) (by have hl_ : bs.length = 128 := hl; first | omega | assumption | (simp; done) | (simp; omega) | decide) (by have hl_ : bs.length = 128 := hl; first | omega | assumption | (simp; done) | (simp; omega) | decide) rfl ?_; clear hE a; intro a v24 hE hr24 hvb24
  replace hr24 : (rd v24 1 ((bs.drop 112).take 4).length (c - 112) (bv ((bs.drop 112).take 4))).holds _ := rd_mid (by first | omega | assumption | (simp; done) | (simp; omega) | decide) hr24
  replace hM := hM.addPart 5 rfl hr24 hvb24; clear hr24
  refine s_move hE rfl rfl ?_; clear hE a; intro a hE
  have hcap28 := rd_len (hM.get 6 rfl)
  refine s_slice (l := 116) (h := 120) (mx' := c) hE rfl (hM.get 6 rfl) slt55 ⟨_, rfl⟩ ⟨_, rfl⟩ rfl (by simp) (by have hl_ : bs.length = 128 := hl; first | omega | assumption | (simp; done) | (simp; omega) | decide) (by have hl_ : bs.length = 128 := hl; first | omega | assumption | (simp; done) | (simp; omega) | decide) (by have hl_ : bs.length = 128 := hl; first | omega | assumption | (simp; done) | (simp; omega) | decide) (by have hl_ : bs.length = 128 := hl; first | omega | assumption | (simp; done) | (simp; omega) | decide) rfl ?_; clear hE a; intro a v28 hE hr28 hvb28
  replace hr28 : (rd v28 1 ((bs.drop 116).take 4).length (c - 116) (bv ((bs.drop 116).take 4))).holds _ := rd_mid (by first | omega | assumption | (simp; done) | (simp; omega) | decide) hr28
  replace hM := hM.addPart 6 rfl hr28 hvb28; clear hr28
  refine q_nil (q_nx ?_)
  refine o_fl rfl ?_
  refine q_nil (q_nx ?_)
  refine o_or rfl ?_ ?_
  · refine s_call hE rfl Try.call58 (rvalue_c _ ((bs.drop 8).take 8) _ _ (hM.get 5 rfl) (by have hl_0 : ((bs.drop 8).take 8).length = 8 := (by have hl_q : bs.length = 128 := hl; simp; try omega); first | omega | assumption | (simp; done) | (simp; omega) | decide)) rfl ?_
    rintro e w3 ⟨rfl, hN⟩
    refine ⟨_, rfl, hN.sta0 _, ?_⟩; clear hE a; intro a hE
    replace hM : Mem _ _ w3 [_, _, _, _, _, _, _, _] := hM.call0 hN trivial; clear hN
    refine q_nil (q_nx ?_)
    refine o_re ?_
    refine o_fl rfl ?_
    refine q_nil (q_nx ?_)
    refine o_fl rfl ?_
    refine q_nil (q_nx ?_)
    refine o_or rfl ?_ ?_
    · refine s_call hE rfl Try.call59 (rtagof_c _ ((bs.drop 16).take 32) _ _ (hM.get 4 rfl) (by have hl_0 : ((bs.drop 16).take 32).length = 32 := (by have hl_q : bs.length = 128 := hl; simp; try omega); first | omega | assumption | (simp; done) | (simp; omega) | decide)) rfl ?_
      rintro e w4 ⟨rfl, hN⟩
      refine ⟨_, rfl, hN.sta0 _, ?_⟩; clear hE a; intro a hE
      replace hM : Mem _ _ w4 [_, _, _, _, _, _, _, _] := hM.call0 hN trivial; clear hN
      refine q_nil (q_nx ?_)
      refine o_re ?_
      refine o_fl rfl ?_
      refine q_nil (q_nx ?_)
      refine o_fl rfl ?_
      refine q_nil (q_nx ?_)
      refine o_or rfl ?_ ?_
      · refine s_call hE rfl Try.call59 (rtagof_c _ ((bs.drop 48).take 32) _ _ (hM.get 3 rfl) (by have hl_0 : ((bs.drop 48).take 32).length = 32 := (by have hl_q : bs.length = 128 := hl; simp; try omega); first | omega | assumption | (simp; done) | (simp; omega) | decide)) rfl ?_
        rintro e w5 ⟨rfl, hN⟩
        refine ⟨_, rfl, hN.sta0 _, ?_⟩; clear hE a; intro a hE
        replace hM : Mem _ _ w5 [_, _, _, _, _, _, _, _] := hM.call0 hN trivial; clear hN
        refine q_nil (q_nx ?_)
        refine o_re ?_
        refine o_fl rfl ?_
        refine q_nil (q_nx ?_)
        refine o_fl rfl ?_
        refine q_nil (q_nx ?_)
        refine o_or rfl ?_ ?_
        · refine s_call hE rfl Try.call59 (rtagof_c _ ((bs.drop 80).take 32) _ _ (hM.get 2 rfl) (by have hl_0 : ((bs.drop 80).take 32).length = 32 := (by have hl_q : bs.length = 128 := hl; simp; try omega); first | omega | assumption | (simp; done) | (simp; omega) | decide)) rfl ?_
          rintro e w6 ⟨rfl, hN⟩
          refine ⟨_, rfl, hN.sta0 _, ?_⟩; clear hE a; intro a hE
          replace hM : Mem _ _ w6 [_, _, _, _, _, _, _, _] := hM.call0 hN trivial; clear hN
          refine q_nil (q_nx ?_)
          refine o_re ?_
          refine o_fl rfl ?_
          refine q_nil (q_nx ?_)
          refine o_fl rfl ?_
          refine q_nil (q_nx ?_)
          refine o_or rfl ?_ ?_
          · refine s_call hE rfl Try.call58 (rvalue_c _ ((bs.drop 112).take 4) _ _ (hM.get 1 rfl) (by have hl_0 : ((bs.drop 112).take 4).length = 4 := (by have hl_q : bs.length = 128 := hl; simp; try omega); first | omega | assumption | (simp; done) | (simp; omega) | decide)) rfl ?_
            rintro e w7 ⟨rfl, hN⟩
            refine ⟨_, rfl, hN.sta0 _, ?_⟩; clear hE a; intro a hE
            replace hM : Mem _ _ w7 [_, _, _, _, _, _, _, _] := hM.call0 hN trivial; clear hN
            refine q_nil (q_nx ?_)
            refine o_re ?_
            refine o_fl rfl ?_
            refine s_conv hE rfl (cnv_int Try.underlying24 Try.underlying3 (wrap_i64 (by omega) (by omega))) rfl ?_; clear hE a; intro a hE
            refine q_nil (q_nx ?_)
            refine o_fl rfl ?_
            refine q_nil (q_nx ?_)
            refine o_or rfl ?_ ?_
            · refine s_call hE rfl Try.call58 (rvalue_c _ ((bs.drop 116).take 4) _ _ (hM.get 0 rfl) (by have hl_0 : ((bs.drop 116).take 4).length = 4 := (by have hl_q : bs.length = 128 := hl; simp; try omega); first | omega | assumption | (simp; done) | (simp; omega) | decide)) rfl ?_
              rintro e w8 ⟨rfl, hN⟩
              refine ⟨_, rfl, hN.sta0 _, ?_⟩; clear hE a; intro a hE
              replace hM : Mem _ _ w8 [_, _, _, _, _, _, _, _] := hM.call0 hN trivial; clear hN
              refine q_nil (q_nx ?_)
              refine o_re ?_
              refine o_fl rfl ?_
              refine s_conv hE rfl (cnv_int Try.underlying24 Try.underlying3 (wrap_i64 (by omega) (by omega))) rfl ?_; clear hE a; intro a hE
              refine s_buildS [[.int .u64 ((val ((bs.drop 8).take 8) : Nat) : Int)], bv ((bs.drop 16).take 32), bv ((bs.drop 48).take 32), bv ((bs.drop 80).take 32), [.int .i64 ((val ((bs.drop 112).take 4) : Nat) : Int)], [.int .i64 ((val ((bs.drop 116).take 4) : Nat) : Int)]] hE rfl zero67 rfl fpl67 (by simp [PartsOk, Value.cells, *]) rfl ?_; clear hE a; intro a hE
              replace hE := hE.cast 31 rfl (show _ = Value.agg ([[.int .u64 ((val ((bs.drop 8).take 8) : Nat) : Int)], bv ((bs.drop 16).take 32), bv ((bs.drop 48).take 32), bv ((bs.drop 80).take 32), [.int .i64 ((val ((bs.drop 112).take 4) : Nat) : Int)], [.int .i64 ((val ((bs.drop 116).take 4) : Nat) : Int)]] : List (List Value)).flatten.toArray from (by first | rfl | simp [setAll]))
              refine q_nil (q_nx ?_)
              refine o_fl rfl ?_
              refine q_nil (q_nx ?_)
              refine o_or rfl ?_ ?_
              · refine s_alloc [1, 32, 32, 32, 1, 1] hE hM zero67 rfl rfl ?_; clear hE a; intro a b4 w9 hE hM'
                clear hM; have hM := hM'; clear hM'
                refine q_nil (q_nx ?_)
                refine o_re ?_
                refine o_fl rfl ?_
                refine q_nil (q_nx ?_)
                refine o_fl rfl ?_
                refine q_nil (q_nx ?_)
                refine o_weak (fun b => b = b4) (fun _ _ => trivial) ?_
                refine o_or rfl ?_ ?_
                · refine s_storeSegs 0 6 (vss := [[.int .u64 ((val ((bs.drop 8).take 8) : Nat) : Int)], bv ((bs.drop 16).take 32), bv ((bs.drop 48).take 32), bv ((bs.drop 80).take 32), [.int .i64 ((val ((bs.drop 112).take 4) : Nat) : Int)], [.int .i64 ((val ((bs.drop 116).take 4) : Nat) : Int)]]) hE rfl rfl hM rfl sz67 (by have hl_s1 : ((bs.drop 16).take 32).length = 32 := (by first | (simp; done) | (simp [*]; done) | (simp; omega)); have hl_s2 : ((bs.drop 48).take 32).length = 32 := (by first | (simp; done) | (simp [*]; done) | (simp; omega)); have hl_s3 : ((bs.drop 80).take 32).length = 32 := (by first | (simp; done) | (simp [*]; done) | (simp; omega));  simp only [List.map_cons, List.map_nil, bv_length, List.length_cons, List.length_nil, List.take_succ_cons, List.take_zero, List.drop_zero, List.drop_succ_cons, hl_s1, hl_s2, hl_s3]) (by decide) rfl (one_fl ⟨one1 rfl, bv_one _, bv_one _, bv_one _, one1 rfl, one1 rfl, trivial⟩) rfl (by intro X h; cases h; rfl) ?_; intro w10 hM'; clear hM; have hM := hM'; clear hM'
                  simp only [List.take_zero, List.take_succ_cons, List.drop_zero, List.drop_succ_cons, List.take_nil, List.drop_nil, List.nil_append, List.append_nil, List.cons_append] at hM
                  refine q_nil (q_nx ?_)
                  refine o_cut (fun _ => True) ?_
                  refine o_re ?_
                  refine o_weak (fun _ => False) (fun _ _ => trivial) ?_
                  refine o_leaf rfl rfl ?_
                  refine q_nil (q_ph (q_nil ?_))
                  replace hE : Env a 48 [(0, _), (2, _), (3, _), (4, _), (9, _)] := hE.sel [0, 2, 3, 4, 9] rfl
                  refine hK4 _ _ ?_
                  refine wp_seq_k (fun K5 hK5 => ?_)
                  refine wp_plain [true, false, true, true, true, true, true] rfl rfl ?_
                  refine s_loadN hE rfl (hM.get 0 rfl) row67 rfl (by intro X h; cases h) rfl ?_; clear hE a; intro a hE
                  replace hE := hE.cast 33 rfl (show _ = Value.agg ([[.int .u64 ((val ((bs.drop 8).take 8) : Nat) : Int)], bv ((bs.drop 16).take 32), bv ((bs.drop 48).take 32), bv ((bs.drop 80).take 32), [.int .i64 ((val ((bs.drop 112).take 4) : Nat) : Int)], [.int .i64 ((val ((bs.drop 116).take 4) : Nat) : Int)]] : List (List Value)).flatten.toArray from (by first | rfl | simp))
                  refine s_call hE rfl Try.call27 (rputroot_bad (val ((bs.drop 8).take 8)) ((bs.drop 16).take 32) ((bs.drop 48).take 32) ((bs.drop 80).take 32) ((val ((bs.drop 112).take 4) : Nat) : Int) ((val ((bs.drop 116).take 4) : Nat) : Int) _ (by first | (simp; done) | (simp [*]; done) | (simp; omega)) (by first | (simp; done) | (simp [*]; done) | (simp; omega)) (by first | (simp; done) | (simp [*]; done) | (simp; omega)) hro) rfl ?_
                  rintro e w11 ⟨rfl, hN⟩
                  refine ⟨_, rfl, trivial, ?_⟩; clear hE a; intro a hE
                  replace hM : Mem _ _ w11 [_, _, _, _, _, _, _, _, _] := hM.call0 hN trivial; clear hN
                  refine s_move hE rfl rfl ?_; clear hE a; intro a hE
                  refine s_extract hE rfl rfl rfl ?_; clear hE a; intro a hE
                  refine s_extract hE rfl rfl rfl ?_; clear hE a; intro a hE
                  refine s_assign hE rfl rfl ?_; clear hE a; intro a hE
                  refine s_assign hE rfl rfl ?_; clear hE a; intro a hE
                  refine q_nil ?_
                  replace hE : Env a 48 [(0, _), (2, _), (3, _), (4, _), (5, _), (6, _), (9, _)] := hE.sel [0, 2, 3, 4, 5, 6, 9] rfl
                  refine hK5 _ _ ?_
                  refine wp_seq_k (fun K6 hK6 => ?_)
                  refine wp_seq_k (fun K7 hK7 => ?_)
                  refine wp_plain [true, true, true, true, true, true, true, true, true] rfl rfl ?_
                  refine s_move hE rfl rfl ?_; clear hE a; intro a hE
                  refine s_bin hE rfl rfl bin_neq rfl ?_; clear hE a; intro a hE
                  replace hE := hE.cast 38 rfl (show _ = Value.bool true from (congrArg Value.bool (by decide)))
                  refine s_move hE rfl rfl ?_; clear hE a; intro a hE
                  refine g_no (b := true) hE rfl rfl rfl ?_; clear hE a; intro a hE
                  refine g_no (b := true) hE rfl rfl rfl ?_; clear hE a; intro a hE
                  refine g_no (b := true) hE rfl rfl rfl ?_; clear hE a; intro a hE
                  refine g_no (b := true) hE rfl rfl rfl ?_; clear hE a; intro a hE
                  refine g_no (b := true) hE rfl rfl rfl ?_; clear hE a; intro a hE
                  refine s_pickt hE rfl rfl rfl ?_; clear hE a; intro a hE
                  refine q_nil ?_
                  replace hE : Env a 48 [(0, _), (2, _), (3, _), (4, _), (9, _), (45, _)] := hE.sel [0, 2, 3, 4, 9, 45] rfl
                  refine hK7 _ _ ?_
                  refine wp_cond_true (hE.eval rfl) ?_
                  refine wp_seq_k (fun K8 hK8 => ?_)
                  refine wp_plain [true, false, true] rfl rfl ?_
                  refine s_buildS [] hE rfl zero67 rfl fpl67 (by simp [PartsOk, Value.cells, *]) rfl ?_; clear hE a; intro a hE
                  replace hE := hE.cast 46 rfl (show _ = Value.agg ([[.int .u64 0], bv (List.replicate 32 (0 : UInt8)), bv (List.replicate 32 (0 : UInt8)), bv (List.replicate 32 (0 : UInt8)), [.int .i64 0], [.int .i64 0]] : List (List Value)).flatten.toArray from (by first | rfl | simp [setAll]))
                  replace hM : Mem _ _ w11 [_, _, _, _, _, _, _, _, _] := hM.pick [7, 0, 1, 2, 3, 4, 5, 6, 8] rfl
                  refine s_storeSegs 0 6 (vss := [[.int .u64 0], bv (List.replicate 32 (0 : UInt8)), bv (List.replicate 32 (0 : UInt8)), bv (List.replicate 32 (0 : UInt8)), [.int .i64 0], [.int .i64 0]]) hE rfl rfl hM rfl sz67 (by have hl_s1 : (List.replicate 32 (0 : UInt8)).length = 32 := (by first | (simp; done) | (simp [*]; done) | (simp; omega)); have hl_s2 : (List.replicate 32 (0 : UInt8)).length = 32 := (by first | (simp; done) | (simp [*]; done) | (simp; omega)); have hl_s3 : (List.replicate 32 (0 : UInt8)).length = 32 := (by first | (simp; done) | (simp [*]; done) | (simp; omega));  simp only [List.map_cons, List.map_nil, bv_length, List.length_cons, List.length_nil, List.take_succ_cons, List.take_zero, List.drop_zero, List.drop_succ_cons, hl_s1, hl_s2, hl_s3]) (by decide) rfl (one_fl ⟨one1 rfl, bv_one _, bv_one _, bv_one _, one1 rfl, one1 rfl, trivial⟩) rfl (by intro X h; cases h) ?_; intro w12 hM'; clear hM; have hM := hM'; clear hM'
                  simp only [List.take_zero, List.take_succ_cons, List.drop_zero, List.drop_succ_cons, List.take_nil, List.drop_nil, List.nil_append, List.append_nil, List.cons_append] at hM
                  refine s_assign hE rfl rfl ?_; clear hE a; intro a hE
                  refine q_nil ?_
                  replace hE : Env a 48 [(0, _), (2, _), (3, _), (4, _), (9, _), (45, _)] := hE.sel [0, 2, 3, 4, 9, 45] rfl
                  refine hK8 _ _ ?_
                  refine wp_ret ?_
                  refine q_then_r ?_
                  refine f_ret2 hE rfl (res_cellN rfl (hM.get 0 rfl) row67 rfl) rfl ?_
                  exact ⟨(by first | rfl | simp), hM.pick [] rfl⟩
                trivial
              trivial
            refine o_or rfl ?_ ?_
            · refine s_alloc [1, 32, 32, 32, 1, 1] hE hM zero67 rfl rfl ?_; clear hE a; intro a b4 w8 hE hM'
              clear hM; have hM := hM'; clear hM'
              refine q_nil (q_nx ?_)
              refine o_re ?_
              refine o_fl rfl ?_
              refine q_nil (q_nx ?_)
              refine o_fl rfl ?_
              refine q_nil (q_nx ?_)
              refine o_or rfl ?_ ?_
              · refine s_call hE rfl Try.call58 (rvalue_c _ ((bs.drop 116).take 4) _ _ (hM.get 1 rfl) (by have hl_0 : ((bs.drop 116).take 4).length = 4 := (by have hl_q : bs.length = 128 := hl; simp; try omega); first | omega | assumption | (simp; done) | (simp; omega) | decide)) rfl ?_
                rintro e w9 ⟨rfl, hN⟩
                refine ⟨_, rfl, hN.sta0 _, ?_⟩; clear hE a; intro a hE
                replace hM : Mem _ _ w9 [_, _, _, _, _, _, _, _, _] := hM.call0 hN trivial; clear hN
                refine q_nil (q_nx ?_)
                refine o_re ?_
                refine o_fl rfl ?_
                refine s_conv hE rfl (cnv_int Try.underlying24 Try.underlying3 (wrap_i64 (by omega) (by omega))) rfl ?_; clear hE a; intro a hE
                refine s_buildS [[.int .u64 ((val ((bs.drop 8).take 8) : Nat) : Int)], bv ((bs.drop 16).take 32), bv ((bs.drop 48).take 32), bv ((bs.drop 80).take 32), [.int .i64 ((val ((bs.drop 112).take 4) : Nat) : Int)], [.int .i64 ((val ((bs.drop 116).take 4) : Nat) : Int)]] hE rfl zero67 rfl fpl67 (by simp [PartsOk, Value.cells, *]) rfl ?_; clear hE a; intro a hE
                replace hE := hE.cast 31 rfl (show _ = Value.agg ([[.int .u64 ((val ((bs.drop 8).take 8) : Nat) : Int)], bv ((bs.drop 16).take 32), bv ((bs.drop 48).take 32), bv ((bs.drop 80).take 32), [.int .i64 ((val ((bs.drop 112).take 4) : Nat) : Int)], [.int .i64 ((val ((bs.drop 116).take 4) : Nat) : Int)]] : List (List Value)).flatten.toArray from (by first | rfl | simp [setAll]))
                refine q_nil (q_nx ?_)
                refine o_fl rfl ?_
                refine q_nil (q_nx ?_)
                refine o_weak (fun b => b = b4) (fun _ _ => trivial) ?_
                refine o_or rfl ?_ ?_
                · refine s_storeSegs 0 6 (vss := [[.int .u64 ((val ((bs.drop 8).take 8) : Nat) : Int)], bv ((bs.drop 16).take 32), bv ((bs.drop 48).take 32), bv ((bs.drop 80).take 32), [.int .i64 ((val ((bs.drop 112).take 4) : Nat) : Int)], [.int .i64 ((val ((bs.drop 116).take 4) : Nat) : Int)]]) hE rfl rfl hM rfl sz67 (by have hl_s1 : ((bs.drop 16).take 32).length = 32 := (by first | (simp; done) | (simp [*]; done) | (simp; omega)); have hl_s2 : ((bs.drop 48).take 32).length = 32 := (by first | (simp; done) | (simp [*]; done) | (simp; omega)); have hl_s3 : ((bs.drop 80).take 32).length = 32 := (by first | (simp; done) | (simp [*]; done) | (simp; omega));  simp only [List.map_cons, List.map_nil, bv_length, List.length_cons, List.length_nil, List.take_succ_cons, List.take_zero, List.drop_zero, List.drop_succ_cons, hl_s1, hl_s2, hl_s3]) (by decide) rfl (one_fl ⟨one1 rfl, bv_one _, bv_one _, bv_one _, one1 rfl, one1 rfl, trivial⟩) rfl (by intro X h; cases h; rfl) ?_; intro w10 hM'; clear hM; have hM := hM'; clear hM'
                  simp only [List.take_zero, List.take_succ_cons, List.drop_zero, List.drop_succ_cons, List.take_nil, List.drop_nil, List.nil_append, List.append_nil, List.cons_append] at hM
                  refine q_nil (q_nx ?_)
                  refine o_cut (fun _ => True) ?_
                  refine o_re ?_
                  refine o_weak (fun _ => False) (fun _ _ => trivial) ?_
                  refine o_leaf rfl rfl ?_
                  refine q_nil (q_ph (q_nil ?_))
                  replace hE : Env a 48 [(0, _), (2, _), (3, _), (4, _), (9, _)] := hE.sel [0, 2, 3, 4, 9] rfl
                  refine hK4 _ _ ?_
                  refine wp_seq_k (fun K5 hK5 => ?_)
                  refine wp_plain [true, false, true, true, true, true, true] rfl rfl ?_
                  refine s_loadN hE rfl (hM.get 0 rfl) row67 rfl (by intro X h; cases h) rfl ?_; clear hE a; intro a hE
                  replace hE := hE.cast 33 rfl (show _ = Value.agg ([[.int .u64 ((val ((bs.drop 8).take 8) : Nat) : Int)], bv ((bs.drop 16).take 32), bv ((bs.drop 48).take 32), bv ((bs.drop 80).take 32), [.int .i64 ((val ((bs.drop 112).take 4) : Nat) : Int)], [.int .i64 ((val ((bs.drop 116).take 4) : Nat) : Int)]] : List (List Value)).flatten.toArray from (by first | rfl | simp))
                  refine s_call hE rfl Try.call27 (rputroot_bad (val ((bs.drop 8).take 8)) ((bs.drop 16).take 32) ((bs.drop 48).take 32) ((bs.drop 80).take 32) ((val ((bs.drop 112).take 4) : Nat) : Int) ((val ((bs.drop 116).take 4) : Nat) : Int) _ (by first | (simp; done) | (simp [*]; done) | (simp; omega)) (by first | (simp; done) | (simp [*]; done) | (simp; omega)) (by first | (simp; done) | (simp [*]; done) | (simp; omega)) hro) rfl ?_
                  rintro e w11 ⟨rfl, hN⟩
                  refine ⟨_, rfl, trivial, ?_⟩; clear hE a; intro a hE
                  replace hM : Mem _ _ w11 [_, _, _, _, _, _, _, _, _] := hM.call0 hN trivial; clear hN
                  refine s_move hE rfl rfl ?_; clear hE a; intro a hE
                  refine s_extract hE rfl rfl rfl ?_; clear hE a; intro a hE
                  refine s_extract hE rfl rfl rfl ?_; clear hE a; intro a hE
                  refine s_assign hE rfl rfl ?_; clear hE a; intro a hE
                  refine s_assign hE rfl rfl ?_; clear hE a; intro a hE
                  refine q_nil ?_
                  replace hE : Env a 48 [(0, _), (2, _), (3, _), (4, _), (5, _), (6, _), (9, _)] := hE.sel [0, 2, 3, 4, 5, 6, 9] rfl
                  refine hK5 _ _ ?_
                  refine wp_seq_k (fun K6 hK6 => ?_)
                  refine wp_seq_k (fun K7 hK7 => ?_)
                  refine wp_plain [true, true, true, true, true, true, true, true, true] rfl rfl ?_
                  refine s_move hE rfl rfl ?_; clear hE a; intro a hE
                  refine s_bin hE rfl rfl bin_neq rfl ?_; clear hE a; intro a hE
                  replace hE := hE.cast 38 rfl (show _ = Value.bool true from (congrArg Value.bool (by decide)))
                  refine s_move hE rfl rfl ?_; clear hE a; intro a hE
                  refine g_no (b := true) hE rfl rfl rfl ?_; clear hE a; intro a hE
                  refine g_no (b := true) hE rfl rfl rfl ?_; clear hE a; intro a hE
                  refine g_no (b := true) hE rfl rfl rfl ?_; clear hE a; intro a hE
                  refine g_no (b := true) hE rfl rfl rfl ?_; clear hE a; intro a hE
                  refine g_no (b := true) hE rfl rfl rfl ?_; clear hE a; intro a hE
                  refine s_pickt hE rfl rfl rfl ?_; clear hE a; intro a hE
                  refine q_nil ?_
                  replace hE : Env a 48 [(0, _), (2, _), (3, _), (4, _), (9, _), (45, _)] := hE.sel [0, 2, 3, 4, 9, 45] rfl
                  refine hK7 _ _ ?_
                  refine wp_cond_true (hE.eval rfl) ?_
                  refine wp_seq_k (fun K8 hK8 => ?_)
                  refine wp_plain [true, false, true] rfl rfl ?_
                  refine s_buildS [] hE rfl zero67 rfl fpl67 (by simp [PartsOk, Value.cells, *]) rfl ?_; clear hE a; intro a hE
                  replace hE := hE.cast 46 rfl (show _ = Value.agg ([[.int .u64 0], bv (List.replicate 32 (0 : UInt8)), bv (List.replicate 32 (0 : UInt8)), bv (List.replicate 32 (0 : UInt8)), [.int .i64 0], [.int .i64 0]] : List (List Value)).flatten.toArray from (by first | rfl | simp [setAll]))
                  replace hM : Mem _ _ w11 [_, _, _, _, _, _, _, _, _] := hM.pick [7, 0, 1, 2, 3, 4, 5, 6, 8] rfl
                  refine s_storeSegs 0 6 (vss := [[.int .u64 0], bv (List.replicate 32 (0 : UInt8)), bv (List.replicate 32 (0 : UInt8)), bv (List.replicate 32 (0 : UInt8)), [.int .i64 0], [.int .i64 0]]) hE rfl rfl hM rfl sz67 (by have hl_s1 : (List.replicate 32 (0 : UInt8)).length = 32 := (by first | (simp; done) | (simp [*]; done) | (simp; omega)); have hl_s2 : (List.replicate 32 (0 : UInt8)).length = 32 := (by first | (simp; done) | (simp [*]; done) | (simp; omega)); have hl_s3 : (List.replicate 32 (0 : UInt8)).length = 32 := (by first | (simp; done) | (simp [*]; done) | (simp; omega));  simp only [List.map_cons, List.map_nil, bv_length, List.length_cons, List.length_nil, List.take_succ_cons, List.take_zero, List.drop_zero, List.drop_succ_cons, hl_s1, hl_s2, hl_s3]) (by decide) rfl (one_fl ⟨one1 rfl, bv_one _, bv_one _, bv_one _, one1 rfl, one1 rfl, trivial⟩) rfl (by intro X h; cases h) ?_; intro w12 hM'; clear hM; have hM := hM'; clear hM'
                  simp only [List.take_zero, List.take_succ_cons, List.drop_zero, List.drop_succ_cons, List.take_nil, List.drop_nil, List.nil_append, List.append_nil, List.cons_append] at hM
                  refine s_assign hE rfl rfl ?_; clear hE a; intro a hE
                  refine q_nil ?_
                  replace hE : Env a 48 [(0, _), (2, _), (3, _), (4, _), (9, _), (45, _)] := hE.sel [0, 2, 3, 4, 9, 45] rfl
                  refine hK8 _ _ ?_
                  refine wp_ret ?_
                  refine q_then_r ?_
                  refine f_ret2 hE rfl (res_cellN rfl (hM.get 0 rfl) row67 rfl) rfl ?_
                  exact ⟨(by first | rfl | simp), hM.pick [] rfl⟩
                trivial
              trivial
            trivial
          refine o_or rfl ?_ ?_
          · refine s_alloc [1, 32, 32, 32, 1, 1] hE hM zero67 rfl rfl ?_; clear hE a; intro a b4 w7 hE hM'
            clear hM; have hM := hM'; clear hM'
            refine q_nil (q_nx ?_)
            refine o_re ?_
            refine o_fl rfl ?_
            refine q_nil (q_nx ?_)
            refine o_fl rfl ?_
            refine q_nil (q_nx ?_)
            refine o_or rfl ?_ ?_
            · refine s_call hE rfl Try.call58 (rvalue_c _ ((bs.drop 112).take 4) _ _ (hM.get 2 rfl) (by have hl_0 : ((bs.drop 112).take 4).length = 4 := (by have hl_q : bs.length = 128 := hl; simp; try omega); first | omega | assumption | (simp; done) | (simp; omega) | decide)) rfl ?_
              rintro e w8 ⟨rfl, hN⟩
              refine ⟨_, rfl, hN.sta0 _, ?_⟩; clear hE a; intro a hE
              replace hM : Mem _ _ w8 [_, _, _, _, _, _, _, _, _] := hM.call0 hN trivial; clear hN
              refine q_nil (q_nx ?_)
              refine o_re ?_
              refine o_fl rfl ?_
              refine s_conv hE rfl (cnv_int Try.underlying24 Try.underlying3 (wrap_i64 (by omega) (by omega))) rfl ?_; clear hE a; intro a hE
              refine q_nil (q_nx ?_)
              refine o_fl rfl ?_
              refine q_nil (q_nx ?_)
              refine o_or rfl ?_ ?_
              · refine s_call hE rfl Try.call58 (rvalue_c _ ((bs.drop 116).take 4) _ _ (hM.get 1 rfl) (by have hl_0 : ((bs.drop 116).take 4).length = 4 := (by have hl_q : bs.length = 128 := hl; simp; try omega); first | omega | assumption | (simp; done) | (simp; omega) | decide)) rfl ?_
                rintro e w9 ⟨rfl, hN⟩
                refine ⟨_, rfl, hN.sta0 _, ?_⟩; clear hE a; intro a hE
                replace hM : Mem _ _ w9 [_, _, _, _, _, _, _, _, _] := hM.call0 hN trivial; clear hN
                refine q_nil (q_nx ?_)
                refine o_re ?_
                refine o_fl rfl ?_
                refine s_conv hE rfl (cnv_int Try.underlying24 Try.underlying3 (wrap_i64 (by omega) (by omega))) rfl ?_; clear hE a; intro a hE
                refine s_buildS [[.int .u64 ((val ((bs.drop 8).take 8) : Nat) : Int)], bv ((bs.drop 16).take 32), bv ((bs.drop 48).take 32), bv ((bs.drop 80).take 32), [.int .i64 ((val ((bs.drop 112).take 4) : Nat) : Int)], [.int .i64 ((val ((bs.drop 116).take 4) : Nat) : Int)]] hE rfl zero67 rfl fpl67 (by simp [PartsOk, Value.cells, *]) rfl ?_; clear hE a; intro a hE
                replace hE := hE.cast 31 rfl (show _ = Value.agg ([[.int .u64 ((val ((bs.drop 8).take 8) : Nat) : Int)], bv ((bs.drop 16).take 32), bv ((bs.drop 48).take 32), bv ((bs.drop 80).take 32), [.int .i64 ((val ((bs.drop 112).take 4) : Nat) : Int)], [.int .i64 ((val ((bs.drop 116).take 4) : Nat) : Int)]] : List (List Value)).flatten.toArray from (by first | rfl | simp [setAll]))
                refine q_nil (q_nx ?_)
                refine o_fl rfl ?_
                refine q_nil (q_nx ?_)
                refine o_weak (fun b => b = b4) (fun _ _ => trivial) ?_
                refine o_or rfl ?_ ?_
                · refine s_storeSegs 0 6 (vss := [[.int .u64 ((val ((bs.drop 8).take 8) : Nat) : Int)], bv ((bs.drop 16).take 32), bv ((bs.drop 48).take 32), bv ((bs.drop 80).take 32), [.int .i64 ((val ((bs.drop 112).take 4) : Nat) : Int)], [.int .i64 ((val ((bs.drop 116).take 4) : Nat) : Int)]]) hE rfl rfl hM rfl sz67 (by have hl_s1 : ((bs.drop 16).take 32).length = 32 := (by first | (simp; done) | (simp [*]; done) | (simp; omega)); have hl_s2 : ((bs.drop 48).take 32).length = 32 := (by first | (simp; done) | (simp [*]; done) | (simp; omega)); have hl_s3 : ((bs.drop 80).take 32).length = 32 := (by first | (simp; done) | (simp [*]; done) | (simp; omega));  simp only [List.map_cons, List.map_nil, bv_length, List.length_cons, List.length_nil, List.take_succ_cons, List.take_zero, List.drop_zero, List.drop_succ_cons, hl_s1, hl_s2, hl_s3]) (by decide) rfl (one_fl ⟨one1 rfl, bv_one _, bv_one _, bv_one _, one1 rfl, one1 rfl, trivial⟩) rfl (by intro X h; cases h; rfl) ?_; intro w10 hM'; clear hM; have hM := hM'; clear hM'
                  simp only [List.take_zero, List.take_succ_cons, List.drop_zero, List.drop_succ_cons, List.take_nil, List.drop_nil, List.nil_append, List.append_nil, List.cons_append] at hM
                  refine q_nil (q_nx ?_)
                  refine o_cut (fun _ => True) ?_
                  refine o_re ?_
                  refine o_weak (fun _ => False) (fun _ _ => trivial) ?_
                  refine o_leaf rfl rfl ?_
                  refine q_nil (q_ph (q_nil ?_))
                  replace hE : Env a 48 [(0, _), (2, _), (3, _), (4, _), (9, _)] := hE.sel [0, 2, 3, 4, 9] rfl
                  refine hK4 _ _ ?_
                  refine wp_seq_k (fun K5 hK5 => ?_)
                  refine wp_plain [true, false, true, true, true, true, true] rfl rfl ?_
                  refine s_loadN hE rfl (hM.get 0 rfl) row67 rfl (by intro X h; cases h) rfl ?_; clear hE a; intro a hE
                  replace hE := hE.cast 33 rfl (show _ = Value.agg ([[.int .u64 ((val ((bs.drop 8).take 8) : Nat) : Int)], bv ((bs.drop 16).take 32), bv ((bs.drop 48).take 32), bv ((bs.drop 80).take 32), [.int .i64 ((val ((bs.drop 112).take 4) : Nat) : Int)], [.int .i64 ((val ((bs.drop 116).take 4) : Nat) : Int)]] : List (List Value)).flatten.toArray from (by first | rfl | simp))
                  refine s_call hE rfl Try.call27 (rputroot_bad (val ((bs.drop 8).take 8)) ((bs.drop 16).take 32) ((bs.drop 48).take 32) ((bs.drop 80).take 32) ((val ((bs.drop 112).take 4) : Nat) : Int) ((val ((bs.drop 116).take 4) : Nat) : Int) _ (by first | (simp; done) | (simp [*]; done) | (simp; omega)) (by first | (simp; done) | (simp [*]; done) | (simp; omega)) (by first | (simp; done) | (simp [*]; done) | (simp; omega)) hro) rfl ?_
                  rintro e w11 ⟨rfl, hN⟩
                  refine ⟨_, rfl, trivial, ?_⟩; clear hE a; intro a hE
                  replace hM : Mem _ _ w11 [_, _, _, _, _, _, _, _, _] := hM.call0 hN trivial; clear hN
                  refine s_move hE rfl rfl ?_; clear hE a; intro a hE
                  refine s_extract hE rfl rfl rfl ?_; clear hE a; intro a hE
                  refine s_extract hE rfl rfl rfl ?_; clear hE a; intro a hE
                  refine s_assign hE rfl rfl ?_; clear hE a; intro a hE
                  refine s_assign hE rfl rfl ?_; clear hE a; intro a hE
                  refine q_nil ?_
                  replace hE : Env a 48 [(0, _), (2, _), (3, _), (4, _), (5, _), (6, _), (9, _)] := hE.sel [0, 2, 3, 4, 5, 6, 9] rfl
                  refine hK5 _ _ ?_
                  refine wp_seq_k (fun K6 hK6 => ?_)
                  refine wp_seq_k (fun K7 hK7 => ?_)
                  refine wp_plain [true, true, true, true, true, true, true, true, true] rfl rfl ?_
                  refine s_move hE rfl rfl ?_; clear hE a; intro a hE
                  refine s_bin hE rfl rfl bin_neq rfl ?_; clear hE a; intro a hE
                  replace hE := hE.cast 38 rfl (show _ = Value.bool true from (congrArg Value.bool (by decide)))
                  refine s_move hE rfl rfl ?_; clear hE a; intro a hE
                  refine g_no (b := true) hE rfl rfl rfl ?_; clear hE a; intro a hE
                  refine g_no (b := true) hE rfl rfl rfl ?_; clear hE a; intro a hE
                  refine g_no (b := true) hE rfl rfl rfl ?_; clear hE a; intro a hE
                  refine g_no (b := true) hE rfl rfl rfl ?_; clear hE a; intro a hE
                  refine g_no (b := true) hE rfl rfl rfl ?_; clear hE a; intro a hE
                  refine s_pickt hE rfl rfl rfl ?_; clear hE a; intro a hE
                  refine q_nil ?_
                  replace hE : Env a 48 [(0, _), (2, _), (3, _), (4, _), (9, _), (45, _)] := hE.sel [0, 2, 3, 4, 9, 45] rfl
                  refine hK7 _ _ ?_
                  refine wp_cond_true (hE.eval rfl) ?_
                  refine wp_seq_k (fun K8 hK8 => ?_)
                  refine wp_plain [true, false, true] rfl rfl ?_
                  refine s_buildS [] hE rfl zero67 rfl fpl67 (by simp [PartsOk, Value.cells, *]) rfl ?_; clear hE a; intro a hE
                  replace hE := hE.cast 46 rfl (show _ = Value.agg ([[.int .u64 0], bv (List.replicate 32 (0 : UInt8)), bv (List.replicate 32 (0 : UInt8)), bv (List.replicate 32 (0 : UInt8)), [.int .i64 0], [.int .i64 0]] : List (List Value)).flatten.toArray from (by first | rfl | simp [setAll]))
                  replace hM : Mem _ _ w11 [_, _, _, _, _, _, _, _, _] := hM.pick [7, 0, 1, 2, 3, 4, 5, 6, 8] rfl
                  refine s_storeSegs 0 6 (vss := [[.int .u64 0], bv (List.replicate 32 (0 : UInt8)), bv (List.replicate 32 (0 : UInt8)), bv (List.replicate 32 (0 : UInt8)), [.int .i64 0], [.int .i64 0]]) hE rfl rfl hM rfl sz67 (by have hl_s1 : (List.replicate 32 (0 : UInt8)).length = 32 := (by first | (simp; done) | (simp [*]; done) | (simp; omega)); have hl_s2 : (List.replicate 32 (0 : UInt8)).length = 32 := (by first | (simp; done) | (simp [*]; done) | (simp; omega)); have hl_s3 : (List.replicate 32 (0 : UInt8)).length = 32 := (by first | (simp; done) | (simp [*]; done) | (simp; omega));  simp only [List.map_cons, List.map_nil, bv_length, List.length_cons, List.length_nil, List.take_succ_cons, List.take_zero, List.drop_zero, List.drop_succ_cons, hl_s1, hl_s2, hl_s3]) (by decide) rfl (one_fl ⟨one1 rfl, bv_one _, bv_one _, bv_one _, one1 rfl, one1 rfl, trivial⟩) rfl (by intro X h; cases h) ?_; intro w12 hM'; clear hM; have hM := hM'; clear hM'
                  simp only [List.take_zero, List.take_succ_cons, List.drop_zero, List.drop_succ_cons, List.take_nil, List.drop_nil, List.nil_append, List.append_nil, List.cons_append] at hM
                  refine s_assign hE rfl rfl ?_; clear hE a; intro a hE
                  refine q_nil ?_
                  replace hE : Env a 48 [(0, _), (2, _), (3, _), (4, _), (9, _), (45, _)] := hE.sel [0, 2, 3, 4, 9, 45] rfl
                  refine hK8 _ _ ?_
                  refine wp_ret ?_
                  refine q_then_r ?_
                  refine f_ret2 hE rfl (res_cellN rfl (hM.get 0 rfl) row67 rfl) rfl ?_
                  exact ⟨(by first | rfl | simp), hM.pick [] rfl⟩
                trivial
              trivial
            trivial
          trivial
        refine o_or rfl ?_ ?_
        · refine s_alloc [1, 32, 32, 32, 1, 1] hE hM zero67 rfl rfl ?_; clear hE a; intro a b4 w6 hE hM'
          clear hM; have hM := hM'; clear hM'
          refine q_nil (q_nx ?_)
          refine o_re ?_
          refine o_fl rfl ?_
          refine q_nil (q_nx ?_)
          refine o_fl rfl ?_
          refine q_nil (q_nx ?_)
          refine o_or rfl ?_ ?_
          · refine s_call hE rfl Try.call59 (rtagof_c _ ((bs.drop 80).take 32) _ _ (hM.get 3 rfl) (by have hl_0 : ((bs.drop 80).take 32).length = 32 := (by have hl_q : bs.length = 128 := hl; simp; try omega); first | omega | assumption | (simp; done) | (simp; omega) | decide)) rfl ?_
            rintro e w7 ⟨rfl, hN⟩
            refine ⟨_, rfl, hN.sta0 _, ?_⟩; clear hE a; intro a hE
            replace hM : Mem _ _ w7 [_, _, _, _, _, _, _, _, _] := hM.call0 hN trivial; clear hN
            refine q_nil (q_nx ?_)
            refine o_re ?_
            refine o_fl rfl ?_
            refine q_nil (q_nx ?_)
            refine o_fl rfl ?_
            refine q_nil (q_nx ?_)
            refine o_or rfl ?_ ?_
            · refine s_call hE rfl Try.call58 (rvalue_c _ ((bs.drop 112).take 4) _ _ (hM.get 2 rfl) (by have hl_0 : ((bs.drop 112).take 4).length = 4 := (by have hl_q : bs.length = 128 := hl; simp; try omega); first | omega | assumption | (simp; done) | (simp; omega) | decide)) rfl ?_
              rintro e w8 ⟨rfl, hN⟩
              refine ⟨_, rfl, hN.sta0 _, ?_⟩; clear hE a; intro a hE
              replace hM : Mem _ _ w8 [_, _, _, _, _, _, _, _, _] := hM.call0 hN trivial; clear hN
              refine q_nil (q_nx ?_)
              refine o_re ?_
              refine o_fl rfl ?_
              refine s_conv hE rfl (cnv_int Try.underlying24 Try.underlying3 (wrap_i64 (by omega) (by omega))) rfl ?_; clear hE a; intro a hE
              refine q_nil (q_nx ?_)
              refine o_fl rfl ?_
              refine q_nil (q_nx ?_)
              refine o_or rfl ?_ ?_
              · refine s_call hE rfl Try.call58 (rvalue_c _ ((bs.drop 116).take 4) _ _ (hM.get 1 rfl) (by have hl_0 : ((bs.drop 116).take 4).length = 4 := (by have hl_q : bs.length = 128 := hl; simp; try omega); first | omega | assumption | (simp; done) | (simp; omega) | decide)) rfl ?_
                rintro e w9 ⟨rfl, hN⟩
                refine ⟨_, rfl, hN.sta0 _, ?_⟩; clear hE a; intro a hE
                replace hM : Mem _ _ w9 [_, _, _, _, _, _, _, _, _] := hM.call0 hN trivial; clear hN
                refine q_nil (q_nx ?_)
                refine o_re ?_
                refine o_fl rfl ?_
                refine s_conv hE rfl (cnv_int Try.underlying24 Try.underlying3 (wrap_i64 (by omega) (by omega))) rfl ?_; clear hE a; intro a hE
                refine s_buildS [[.int .u64 ((val ((bs.drop 8).take 8) : Nat) : Int)], bv ((bs.drop 16).take 32), bv ((bs.drop 48).take 32), bv ((bs.drop 80).take 32), [.int .i64 ((val ((bs.drop 112).take 4) : Nat) : Int)], [.int .i64 ((val ((bs.drop 116).take 4) : Nat) : Int)]] hE rfl zero67 rfl fpl67 (by simp [PartsOk, Value.cells, *]) rfl ?_; clear hE a; intro a hE
                replace hE := hE.cast 31 rfl (show _ = Value.agg ([[.int .u64 ((val ((bs.drop 8).take 8) : Nat) : Int)], bv ((bs.drop 16).take 32), bv ((bs.drop 48).take 32), bv ((bs.drop 80).take 32), [.int .i64 ((val ((bs.drop 112).take 4) : Nat) : Int)], [.int .i64 ((val ((bs.drop 116).take 4) : Nat) : Int)]] : List (List Value)).flatten.toArray from (by first | rfl | simp [setAll]))
                refine q_nil (q_nx ?_)
                refine o_fl rfl ?_
                refine q_nil (q_nx ?_)
                refine o_weak (fun b => b = b4) (fun _ _ => trivial) ?_
                refine o_or rfl ?_ ?_
                · refine s_storeSegs 0 6 (vss := [[.int .u64 ((val ((bs.drop 8).take 8) : Nat) : Int)], bv ((bs.drop 16).take 32), bv ((bs.drop 48).take 32), bv ((bs.drop 80).take 32), [.int .i64 ((val ((bs.drop 112).take 4) : Nat) : Int)], [.int .i64 ((val ((bs.drop 116).take 4) : Nat) : Int)]]) hE rfl rfl hM rfl sz67 (by have hl_s1 : ((bs.drop 16).take 32).length = 32 := (by first | (simp; done) | (simp [*]; done) | (simp; omega)); have hl_s2 : ((bs.drop 48).take 32).length = 32 := (by first | (simp; done) | (simp [*]; done) | (simp; omega)); have hl_s3 : ((bs.drop 80).take 32).length = 32 := (by first | (simp; done) | (simp [*]; done) | (simp; omega));  simp only [List.map_cons, List.map_nil, bv_length, List.length_cons, List.length_nil, List.take_succ_cons, List.take_zero, List.drop_zero, List.drop_succ_cons, hl_s1, hl_s2, hl_s3]) (by decide) rfl (one_fl ⟨one1 rfl, bv_one _, bv_one _, bv_one _, one1 rfl, one1 rfl, trivial⟩) rfl (by intro X h; cases h; rfl) ?_; intro w10 hM'; clear hM; have hM := hM'; clear hM'
                  simp only [List.take_zero, List.take_succ_cons, List.drop_zero, List.drop_succ_cons, List.take_nil, List.drop_nil, List.nil_append, List.append_nil, List.cons_append] at hM
                  refine q_nil (q_nx ?_)
                  refine o_cut (fun _ => True) ?_
                  refine o_re ?_
                  refine o_weak (fun _ => False) (fun _ _ => trivial) ?_
                  refine o_leaf rfl rfl ?_
                  refine q_nil (q_ph (q_nil ?_))
                  replace hE : Env a 48 [(0, _), (2, _), (3, _), (4, _), (9, _)] := hE.sel [0, 2, 3, 4, 9] rfl
                  refine hK4 _ _ ?_
                  refine wp_seq_k (fun K5 hK5 => ?_)
                  refine wp_plain [true, false, true, true, true, true, true] rfl rfl ?_
                  refine s_loadN hE rfl (hM.get 0 rfl) row67 rfl (by intro X h; cases h) rfl ?_; clear hE a; intro a hE
                  replace hE := hE.cast 33 rfl (show _ = Value.agg ([[.int .u64 ((val ((bs.drop 8).take 8) : Nat) : Int)], bv ((bs.drop 16).take 32), bv ((bs.drop 48).take 32), bv ((bs.drop 80).take 32), [.int .i64 ((val ((bs.drop 112).take 4) : Nat) : Int)], [.int .i64 ((val ((bs.drop 116).take 4) : Nat) : Int)]] : List (List Value)).flatten.toArray from (by first | rfl | simp))
                  refine s_call hE rfl Try.call27 (rputroot_bad (val ((bs.drop 8).take 8)) ((bs.drop 16).take 32) ((bs.drop 48).take 32) ((bs.drop 80).take 32) ((val ((bs.drop 112).take 4) : Nat) : Int) ((val ((bs.drop 116).take 4) : Nat) : Int) _ (by first | (simp; done) | (simp [*]; done) | (simp; omega)) (by first | (simp; done) | (simp [*]; done) | (simp; omega)) (by first | (simp; done) | (simp [*]; done) | (simp; omega)) hro) rfl ?_
                  rintro e w11 ⟨rfl, hN⟩
                  refine ⟨_, rfl, trivial, ?_⟩; clear hE a; intro a hE
                  replace hM : Mem _ _ w11 [_, _, _, _, _, _, _, _, _] := hM.call0 hN trivial; clear hN
                  refine s_move hE rfl rfl ?_; clear hE a; intro a hE
                  refine s_extract hE rfl rfl rfl ?_; clear hE a; intro a hE
                  refine s_extract hE rfl rfl rfl ?_; clear hE a; intro a hE
                  refine s_assign hE rfl rfl ?_; clear hE a; intro a hE
                  refine s_assign hE rfl rfl ?_; clear hE a; intro a hE
                  refine q_nil ?_
                  replace hE : Env a 48 [(0, _), (2, _), (3, _), (4, _), (5, _), (6, _), (9, _)] := hE.sel [0, 2, 3, 4, 5, 6, 9] rfl
                  refine hK5 _ _ ?_
                  refine wp_seq_k (fun K6 hK6 => ?_)
                  refine wp_seq_k (fun K7 hK7 => ?_)
                  refine wp_plain [true, true, true, true, true, true, true, true, true] rfl rfl ?_
                  refine s_move hE rfl rfl ?_; clear hE a; intro a hE
                  refine s_bin hE rfl rfl bin_neq rfl ?_; clear hE a; intro a hE
                  replace hE := hE.cast 38 rfl (show _ = Value.bool true from (congrArg Value.bool (by decide)))
                  refine s_move hE rfl rfl ?_; clear hE a; intro a hE
                  refine g_no (b := true) hE rfl rfl rfl ?_; clear hE a; intro a hE
                  refine g_no (b := true) hE rfl rfl rfl ?_; clear hE a; intro a hE
                  refine g_no (b := true) hE rfl rfl rfl ?_; clear hE a; intro a hE
                  refine g_no (b := true) hE rfl rfl rfl ?_; clear hE a; intro a hE
                  refine g_no (b := true) hE rfl rfl rfl ?_; clear hE a; intro a hE
                  refine s_pickt hE rfl rfl rfl ?_; clear hE a; intro a hE
                  refine q_nil ?_
                  replace hE : Env a 48 [(0, _), (2, _), (3, _), (4, _), (9, _), (45, _)] := hE.sel [0, 2, 3, 4, 9, 45] rfl
                  refine hK7 _ _ ?_
                  refine wp_cond_true (hE.eval rfl) ?_
                  refine wp_seq_k (fun K8 hK8 => ?_)
                  refine wp_plain [true, false, true] rfl rfl ?_
                  refine s_buildS [] hE rfl zero67 rfl fpl67 (by simp [PartsOk, Value.cells, *]) rfl ?_; clear hE a; intro a hE
                  replace hE := hE.cast 46 rfl (show _ = Value.agg ([[.int .u64 0], bv (List.replicate 32 (0 : UInt8)), bv (List.replicate 32 (0 : UInt8)), bv (List.replicate 32 (0 : UInt8)), [.int .i64 0], [.int .i64 0]] : List (List Value)).flatten.toArray from (by first | rfl | simp [setAll]))
                  replace hM : Mem _ _ w11 [_, _, _, _, _, _, _, _, _] := hM.pick [7, 0, 1, 2, 3, 4, 5, 6, 8] rfl
                  refine s_storeSegs 0 6 (vss := [[.int .u64 0], bv (List.replicate 32 (0 : UInt8)), bv (List.replicate 32 (0 : UInt8)), bv (List.replicate 32 (0 : UInt8)), [.int .i64 0], [.int .i64 0]]) hE rfl rfl hM rfl sz67 (by have hl_s1 : (List.replicate 32 (0 : UInt8)).length = 32 := (by first | (simp; done) | (simp [*]; done) | (simp; omega)); have hl_s2 : (List.replicate 32 (0 : UInt8)).length = 32 := (by first | (simp; done) | (simp [*]; done) | (simp; omega)); have hl_s3 : (List.replicate 32 (0 : UInt8)).length = 32 := (by first | (simp; done) | (simp [*]; done) | (simp; omega));  simp only [List.map_cons, List.map_nil, bv_length, List.length_cons, List.length_nil, List.take_succ_cons, List.take_zero, List.drop_zero, List.drop_succ_cons, hl_s1, hl_s2, hl_s3]) (by decide) rfl (one_fl ⟨one1 rfl, bv_one _, bv_one _, bv_one _, one1 rfl, one1 rfl, trivial⟩) rfl (by intro X h; cases h) ?_; intro w12 hM'; clear hM; have hM := hM'; clear hM'
                  simp only [List.take_zero, List.take_succ_cons, List.drop_zero, List.drop_succ_cons, List.take_nil, List.drop_nil, List.nil_append, List.append_nil, List.cons_append] at hM
                  refine s_assign hE rfl rfl ?_; clear hE a; intro a hE
                  refine q_nil ?_
                  replace hE : Env a 48 [(0, _), (2, _), (3, _), (4, _), (9, _), (45, _)] := hE.sel [0, 2, 3, 4, 9, 45] rfl
                  refine hK8 _ _ ?_
                  refine wp_ret ?_
                  refine q_then_r ?_
                  refine f_ret2 hE rfl (res_cellN rfl (hM.get 0 rfl) row67 rfl) rfl ?_
                  exact ⟨(by first | rfl | simp), hM.pick [] rfl⟩
                trivial
              trivial
            trivial
          trivial
        trivial
      refine o_or rfl ?_ ?_
      · refine s_alloc [1, 32, 32, 32, 1, 1] hE hM zero67 rfl rfl ?_; clear hE a; intro a b4 w5 hE hM'
        clear hM; have hM := hM'; clear hM'
        refine q_nil (q_nx ?_)
        refine o_re ?_
        refine o_fl rfl ?_
        refine q_nil (q_nx ?_)
        refine o_fl rfl ?_
        refine q_nil (q_nx ?_)
        refine o_or rfl ?_ ?_
        · refine s_call hE rfl Try.call59 (rtagof_c _ ((bs.drop 48).take 32) _ _ (hM.get 4 rfl) (by have hl_0 : ((bs.drop 48).take 32).length = 32 := (by have hl_q : bs.length = 128 := hl; simp; try omega); first | omega | assumption | (simp; done) | (simp; omega) | decide)) rfl ?_
          rintro e w6 ⟨rfl, hN⟩
          refine ⟨_, rfl, hN.sta0 _, ?_⟩; clear hE a; intro a hE
          replace hM : Mem _ _ w6 [_, _, _, _, _, _, _, _, _] := hM.call0 hN trivial; clear hN
          refine q_nil (q_nx ?_)
          refine o_re ?_
          refine o_fl rfl ?_
          refine q_nil (q_nx ?_)
          refine o_fl rfl ?_
          refine q_nil (q_nx ?_)
          refine o_or rfl ?_ ?_
          · refine s_call hE rfl Try.call59 (rtagof_c _ ((bs.drop 80).take 32) _ _ (hM.get 3 rfl) (by have hl_0 : ((bs.drop 80).take 32).length = 32 := (by have hl_q : bs.length = 128 := hl; simp; try omega); first | omega | assumption | (simp; done) | (simp; omega) | decide)) rfl ?_
            rintro e w7 ⟨rfl, hN⟩
            refine ⟨_, rfl, hN.sta0 _, ?_⟩; clear hE a; intro a hE
            replace hM : Mem _ _ w7 [_, _, _, _, _, _, _, _, _] := hM.call0 hN trivial; clear hN
            refine q_nil (q_nx ?_)
            refine o_re ?_
            refine o_fl rfl ?_
            refine q_nil (q_nx ?_)
            refine o_fl rfl ?_
            refine q_nil (q_nx ?_)
            refine o_or rfl ?_ ?_
            · refine s_call hE rfl Try.call58 (rvalue_c _ ((bs.drop 112).take 4) _ _ (hM.get 2 rfl) (by have hl_0 : ((bs.drop 112).take 4).length = 4 := (by have hl_q : bs.length = 128 := hl; simp; try omega); first | omega | assumption | (simp; done) | (simp; omega) | decide)) rfl ?_
              rintro e w8 ⟨rfl, hN⟩
              refine ⟨_, rfl, hN.sta0 _, ?_⟩; clear hE a; intro a hE
              replace hM : Mem _ _ w8 [_, _, _, _, _, _, _, _, _] := hM.call0 hN trivial; clear hN
              refine q_nil (q_nx ?_)
              refine o_re ?_
              refine o_fl rfl ?_
              refine s_conv hE rfl (cnv_int Try.underlying24 Try.underlying3 (wrap_i64 (by omega) (by omega))) rfl ?_; clear hE a; intro a hE
              refine q_nil (q_nx ?_)
              refine o_fl rfl ?_
              refine q_nil (q_nx ?_)
              refine o_or rfl ?_ ?_
              · refine s_call hE rfl Try.call58 (rvalue_c _ ((bs.drop 116).take 4) _ _ (hM.get 1 rfl) (by have hl_0 : ((bs.drop 116).take 4).length = 4 := (by have hl_q : bs.length = 128 := hl; simp; try omega); first | omega | assumption | (simp; done) | (simp; omega) | decide)) rfl ?_
                rintro e w9 ⟨rfl, hN⟩
                refine ⟨_, rfl, hN.sta0 _, ?_⟩; clear hE a; intro a hE
                replace hM : Mem _ _ w9 [_, _, _, _, _, _, _, _, _] := hM.call0 hN trivial; clear hN
                refine q_nil (q_nx ?_)
                refine o_re ?_
                refine o_fl rfl ?_
                refine s_conv hE rfl (cnv_int Try.underlying24 Try.underlying3 (wrap_i64 (by omega) (by omega))) rfl ?_; clear hE a; intro a hE
                refine s_buildS [[.int .u64 ((val ((bs.drop 8).take 8) : Nat) : Int)], bv ((bs.drop 16).take 32), bv ((bs.drop 48).take 32), bv ((bs.drop 80).take 32), [.int .i64 ((val ((bs.drop 112).take 4) : Nat) : Int)], [.int .i64 ((val ((bs.drop 116).take 4) : Nat) : Int)]] hE rfl zero67 rfl fpl67 (by simp [PartsOk, Value.cells, *]) rfl ?_; clear hE a; intro a hE
                replace hE := hE.cast 31 rfl (show _ = Value.agg ([[.int .u64 ((val ((bs.drop 8).take 8) : Nat) : Int)], bv ((bs.drop 16).take 32), bv ((bs.drop 48).take 32), bv ((bs.drop 80).take 32), [.int .i64 ((val ((bs.drop 112).take 4) : Nat) : Int)], [.int .i64 ((val ((bs.drop 116).take 4) : Nat) : Int)]] : List (List Value)).flatten.toArray from (by first | rfl | simp [setAll]))
                refine q_nil (q_nx ?_)
                refine o_fl rfl ?_
                refine q_nil (q_nx ?_)
                refine o_weak (fun b => b = b4) (fun _ _ => trivial) ?_
                refine o_or rfl ?_ ?_
                · refine s_storeSegs 0 6 (vss := [[.int .u64 ((val ((bs.drop 8).take 8) : Nat) : Int)], bv ((bs.drop 16).take 32), bv ((bs.drop 48).take 32), bv ((bs.drop 80).take 32), [.int .i64 ((val ((bs.drop 112).take 4) : Nat) : Int)], [.int .i64 ((val ((bs.drop 116).take 4) : Nat) : Int)]]) hE rfl rfl hM rfl sz67 (by have hl_s1 : ((bs.drop 16).take 32).length = 32 := (by first | (simp; done) | (simp [*]; done) | (simp; omega)); have hl_s2 : ((bs.drop 48).take 32).length = 32 := (by first | (simp; done) | (simp [*]; done) | (simp; omega)); have hl_s3 : ((bs.drop 80).take 32).length = 32 := (by first | (simp; done) | (simp [*]; done) | (simp; omega));  simp only [List.map_cons, List.map_nil, bv_length, List.length_cons, List.length_nil, List.take_succ_cons, List.take_zero, List.drop_zero, List.drop_succ_cons, hl_s1, hl_s2, hl_s3]) (by decide) rfl (one_fl ⟨one1 rfl, bv_one _, bv_one _, bv_one _, one1 rfl, one1 rfl, trivial⟩) rfl (by intro X h; cases h; rfl) ?_; intro w10 hM'; clear hM; have hM := hM'; clear hM'
                  simp only [List.take_zero, List.take_succ_cons, List.drop_zero, List.drop_succ_cons, List.take_nil, List.drop_nil, List.nil_append, List.append_nil, List.cons_append] at hM
                  refine q_nil (q_nx ?_)
                  refine o_cut (fun _ => True) ?_
                  refine o_re ?_
                  refine o_weak (fun _ => False) (fun _ _ => trivial) ?_
                  refine o_leaf rfl rfl ?_
                  refine q_nil (q_ph (q_nil ?_))
                  replace hE : Env a 48 [(0, _), (2, _), (3, _), (4, _), (9, _)] := hE.sel [0, 2, 3, 4, 9] rfl
                  refine hK4 _ _ ?_
                  refine wp_seq_k (fun K5 hK5 => ?_)
                  refine wp_plain [true, false, true, true, true, true, true] rfl rfl ?_
                  refine s_loadN hE rfl (hM.get 0 rfl) row67 rfl (by intro X h; cases h) rfl ?_; clear hE a; intro a hE
                  replace hE := hE.cast 33 rfl (show _ = Value.agg ([[.int .u64 ((val ((bs.drop 8).take 8) : Nat) : Int)], bv ((bs.drop 16).take 32), bv ((bs.drop 48).take 32), bv ((bs.drop 80).take 32), [.int .i64 ((val ((bs.drop 112).take 4) : Nat) : Int)], [.int .i64 ((val ((bs.drop 116).take 4) : Nat) : Int)]] : List (List Value)).flatten.toArray from (by first | rfl | simp))
                  refine s_call hE rfl Try.call27 (rputroot_bad (val ((bs.drop 8).take 8)) ((bs.drop 16).take 32) ((bs.drop 48).take 32) ((bs.drop 80).take 32) ((val ((bs.drop 112).take 4) : Nat) : Int) ((val ((bs.drop 116).take 4) : Nat) : Int) _ (by first | (simp; done) | (simp [*]; done) | (simp; omega)) (by first | (simp; done) | (simp [*]; done) | (simp; omega)) (by first | (simp; done) | (simp [*]; done) | (simp; omega)) hro) rfl ?_
                  rintro e w11 ⟨rfl, hN⟩
                  refine ⟨_, rfl, trivial, ?_⟩; clear hE a; intro a hE
                  replace hM : Mem _ _ w11 [_, _, _, _, _, _, _, _, _] := hM.call0 hN trivial; clear hN
                  refine s_move hE rfl rfl ?_; clear hE a; intro a hE
                  refine s_extract hE rfl rfl rfl ?_; clear hE a; intro a hE
                  refine s_extract hE rfl rfl rfl ?_; clear hE a; intro a hE
                  refine s_assign hE rfl rfl ?_; clear hE a; intro a hE
                  refine s_assign hE rfl rfl ?_; clear hE a; intro a hE
                  refine q_nil ?_
                  replace hE : Env a 48 [(0, _), (2, _), (3, _), (4, _), (5, _), (6, _), (9, _)] := hE.sel [0, 2, 3, 4, 5, 6, 9] rfl
                  refine hK5 _ _ ?_
                  refine wp_seq_k (fun K6 hK6 => ?_)
                  refine wp_seq_k (fun K7 hK7 => ?_)
                  refine wp_plain [true, true, true, true, true, true, true, true, true] rfl rfl ?_
                  refine s_move hE rfl rfl ?_; clear hE a; intro a hE
                  refine s_bin hE rfl rfl bin_neq rfl ?_; clear hE a; intro a hE
                  replace hE := hE.cast 38 rfl (show _ = Value.bool true from (congrArg Value.bool (by decide)))
                  refine s_move hE rfl rfl ?_; clear hE a; intro a hE
                  refine g_no (b := true) hE rfl rfl rfl ?_; clear hE a; intro a hE
                  refine g_no (b := true) hE rfl rfl rfl ?_; clear hE a; intro a hE
                  refine g_no (b := true) hE rfl rfl rfl ?_; clear hE a; intro a hE
                  refine g_no (b := true) hE rfl rfl rfl ?_; clear hE a; intro a hE
                  refine g_no (b := true) hE rfl rfl rfl ?_; clear hE a; intro a hE
                  refine s_pickt hE rfl rfl rfl ?_; clear hE a; intro a hE
                  refine q_nil ?_
                  replace hE : Env a 48 [(0, _), (2, _), (3, _), (4, _), (9, _), (45, _)] := hE.sel [0, 2, 3, 4, 9, 45] rfl
                  refine hK7 _ _ ?_
                  refine wp_cond_true (hE.eval rfl) ?_
                  refine wp_seq_k (fun K8 hK8 => ?_)
                  refine wp_plain [true, false, true] rfl rfl ?_
                  refine s_buildS [] hE rfl zero67 rfl fpl67 (by simp [PartsOk, Value.cells, *]) rfl ?_; clear hE a; intro a hE
                  replace hE := hE.cast 46 rfl (show _ = Value.agg ([[.int .u64 0], bv (List.replicate 32 (0 : UInt8)), bv (List.replicate 32 (0 : UInt8)), bv (List.replicate 32 (0 : UInt8)), [.int .i64 0], [.int .i64 0]] : List (List Value)).flatten.toArray from (by first | rfl | simp [setAll]))
                  replace hM : Mem _ _ w11 [_, _, _, _, _, _, _, _, _] := hM.pick [7, 0, 1, 2, 3, 4, 5, 6, 8] rfl
                  refine s_storeSegs 0 6 (vss := [[.int .u64 0], bv (List.replicate 32 (0 : UInt8)), bv (List.replicate 32 (0 : UInt8)), bv (List.replicate 32 (0 : UInt8)), [.int .i64 0], [.int .i64 0]]) hE rfl rfl hM rfl sz67 (by have hl_s1 : (List.replicate 32 (0 : UInt8)).length = 32 := (by first | (simp; done) | (simp [*]; done) | (simp; omega)); have hl_s2 : (List.replicate 32 (0 : UInt8)).length = 32 := (by first | (simp; done) | (simp [*]; done) | (simp; omega)); have hl_s3 : (List.replicate 32 (0 : UInt8)).length = 32 := (by first | (simp; done) | (simp [*]; done) | (simp; omega));  simp only [List.map_cons, List.map_nil, bv_length, List.length_cons, List.length_nil, List.take_succ_cons, List.take_zero, List.drop_zero, List.drop_succ_cons, hl_s1, hl_s2, hl_s3]) (by decide) rfl (one_fl ⟨one1 rfl, bv_one _, bv_one _, bv_one _, one1 rfl, one1 rfl, trivial⟩) rfl (by intro X h; cases h) ?_; intro w12 hM'; clear hM; have hM := hM'; clear hM'
                  simp only [List.take_zero, List.take_succ_cons, List.drop_zero, List.drop_succ_cons, List.take_nil, List.drop_nil, List.nil_append, List.append_nil, List.cons_append] at hM
                  refine s_assign hE rfl rfl ?_; clear hE a; intro a hE
                  refine q_nil ?_
                  replace hE : Env a 48 [(0, _), (2, _), (3, _), (4, _), (9, _), (45, _)] := hE.sel [0, 2, 3, 4, 9, 45] rfl
                  refine hK8 _ _ ?_
                  refine wp_ret ?_
                  refine q_then_r ?_
                  refine f_ret2 hE rfl (res_cellN rfl (hM.get 0 rfl) row67 rfl) rfl ?_
                  exact ⟨(by first | rfl | simp), hM.pick [] rfl⟩
                trivial
              trivial
            trivial
          trivial
        trivial
      trivial
    refine o_or rfl ?_ ?_
    · refine s_alloc [1, 32, 32, 32, 1, 1] hE hM zero67 rfl rfl ?_; clear hE a; intro a b4 w4 hE hM'
      clear hM; have hM := hM'; clear hM'
      refine q_nil (q_nx ?_)
      refine o_re ?_
      refine o_fl rfl ?_
      refine q_nil (q_nx ?_)
      refine o_fl rfl ?_
      refine q_nil (q_nx ?_)
      refine o_or rfl ?_ ?_
      · refine s_call hE rfl Try.call59 (rtagof_c _ ((bs.drop 16).take 32) _ _ (hM.get 5 rfl) (by have hl_0 : ((bs.drop 16).take 32).length = 32 := (by have hl_q : bs.length = 128 := hl; simp; try omega); first | omega | assumption | (simp; done) | (simp; omega) | decide)) rfl ?_
        rintro e w5 ⟨rfl, hN⟩
        refine ⟨_, rfl, hN.sta0 _, ?_⟩; clear hE a; intro a hE
        replace hM : Mem _ _ w5 [_, _, _, _, _, _, _, _, _] := hM.call0 hN trivial; clear hN
        refine q_nil (q_nx ?_)
        refine o_re ?_
        refine o_fl rfl ?_
        refine q_nil (q_nx ?_)
        refine o_fl rfl ?_
        refine q_nil (q_nx ?_)
        refine o_or rfl ?_ ?_
        · refine s_call hE rfl Try.call59 (rtagof_c _ ((bs.drop 48).take 32) _ _ (hM.get 4 rfl) (by have hl_0 : ((bs.drop 48).take 32).length = 32 := (by have hl_q : bs.length = 128 := hl; simp; try omega); first | omega | assumption | (simp; done) | (simp; omega) | decide)) rfl ?_
          rintro e w6 ⟨rfl, hN⟩
          refine ⟨_, rfl, hN.sta0 _, ?_⟩; clear hE a; intro a hE
          replace hM : Mem _ _ w6 [_, _, _, _, _, _, _, _, _] := hM.call0 hN trivial; clear hN
          refine q_nil (q_nx ?_)
          refine o_re ?_
          refine o_fl rfl ?_
          refine q_nil (q_nx ?_)
          refine o_fl rfl ?_
          refine q_nil (q_nx ?_)
          refine o_or rfl ?_ ?_
          · refine s_call hE rfl Try.call59 (rtagof_c _ ((bs.drop 80).take 32) _ _ (hM.get 3 rfl) (by have hl_0 : ((bs.drop 80).take 32).length = 32 := (by have hl_q : bs.length = 128 := hl; simp; try omega); first | omega | assumption | (simp; done) | (simp; omega) | decide)) rfl ?_
            rintro e w7 ⟨rfl, hN⟩
            refine ⟨_, rfl, hN.sta0 _, ?_⟩; clear hE a; intro a hE
            replace hM : Mem _ _ w7 [_, _, _, _, _, _, _, _, _] := hM.call0 hN trivial; clear hN
            refine q_nil (q_nx ?_)
            refine o_re ?_
            refine o_fl rfl ?_
            refine q_nil (q_nx ?_)
            refine o_fl rfl ?_
            refine q_nil (q_nx ?_)
            refine o_or rfl ?_ ?_
            · refine s_call hE rfl Try.call58 (rvalue_c _ ((bs.drop 112).take 4) _ _ (hM.get 2 rfl) (by have hl_0 : ((bs.drop 112).take 4).length = 4 := (by have hl_q : bs.length = 128 := hl; simp; try omega); first | omega | assumption | (simp; done) | (simp; omega) | decide)) rfl ?_
              rintro e w8 ⟨rfl, hN⟩
              refine ⟨_, rfl, hN.sta0 _, ?_⟩; clear hE a; intro a hE
              replace hM : Mem _ _ w8 [_, _, _, _, _, _, _, _, _] := hM.call0 hN trivial; clear hN
              refine q_nil (q_nx ?_)
              refine o_re ?_
              refine o_fl rfl ?_
              refine s_conv hE rfl (cnv_int Try.underlying24 Try.underlying3 (wrap_i64 (by omega) (by omega))) rfl ?_; clear hE a; intro a hE
              refine q_nil (q_nx ?_)
              refine o_fl rfl ?_
              refine q_nil (q_nx ?_)
              refine o_or rfl ?_ ?_
              · refine s_call hE rfl Try.call58 (rvalue_c _ ((bs.drop 116).take 4) _ _ (hM.get 1 rfl) (by have hl_0 : ((bs.drop 116).take 4).length = 4 := (by have hl_q : bs.length = 128 := hl; simp; try omega); first | omega | assumption | (simp; done) | (simp; omega) | decide)) rfl ?_
                rintro e w9 ⟨rfl, hN⟩
                refine ⟨_, rfl, hN.sta0 _, ?_⟩; clear hE a; intro a hE
                replace hM : Mem _ _ w9 [_, _, _, _, _, _, _, _, _] := hM.call0 hN trivial; clear hN
                refine q_nil (q_nx ?_)
                refine o_re ?_
                refine o_fl rfl ?_
                refine s_conv hE rfl (cnv_int Try.underlying24 Try.underlying3 (wrap_i64 (by omega) (by omega))) rfl ?_; clear hE a; intro a hE
                refine s_buildS [[.int .u64 ((val ((bs.drop 8).take 8) : Nat) : Int)], bv ((bs.drop 16).take 32), bv ((bs.drop 48).take 32), bv ((bs.drop 80).take 32), [.int .i64 ((val ((bs.drop 112).take 4) : Nat) : Int)], [.int .i64 ((val ((bs.drop 116).take 4) : Nat) : Int)]] hE rfl zero67 rfl fpl67 (by simp [PartsOk, Value.cells, *]) rfl ?_; clear hE a; intro a hE
                replace hE := hE.cast 31 rfl (show _ = Value.agg ([[.int .u64 ((val ((bs.drop 8).take 8) : Nat) : Int)], bv ((bs.drop 16).take 32), bv ((bs.drop 48).take 32), bv ((bs.drop 80).take 32), [.int .i64 ((val ((bs.drop 112).take 4) : Nat) : Int)], [.int .i64 ((val ((bs.drop 116).take 4) : Nat) : Int)]] : List (List Value)).flatten.toArray from (by first | rfl | simp [setAll]))
                refine q_nil (q_nx ?_)
                refine o_fl rfl ?_
                refine q_nil (q_nx ?_)
                refine o_weak (fun b => b = b4) (fun _ _ => trivial) ?_
                refine o_or rfl ?_ ?_
                · refine s_storeSegs 0 6 (vss := [[.int .u64 ((val ((bs.drop 8).take 8) : Nat) : Int)], bv ((bs.drop 16).take 32), bv ((bs.drop 48).take 32), bv ((bs.drop 80).take 32), [.int .i64 ((val ((bs.drop 112).take 4) : Nat) : Int)], [.int .i64 ((val ((bs.drop 116).take 4) : Nat) : Int)]]) hE rfl rfl hM rfl sz67 (by have hl_s1 : ((bs.drop 16).take 32).length = 32 := (by first | (simp; done) | (simp [*]; done) | (simp; omega)); have hl_s2 : ((bs.drop 48).take 32).length = 32 := (by first | (simp; done) | (simp [*]; done) | (simp; omega)); have hl_s3 : ((bs.drop 80).take 32).length = 32 := (by first | (simp; done) | (simp [*]; done) | (simp; omega));  simp only [List.map_cons, List.map_nil, bv_length, List.length_cons, List.length_nil, List.take_succ_cons, List.take_zero, List.drop_zero, List.drop_succ_cons, hl_s1, hl_s2, hl_s3]) (by decide) rfl (one_fl ⟨one1 rfl, bv_one _, bv_one _, bv_one _, one1 rfl, one1 rfl, trivial⟩) rfl (by intro X h; cases h; rfl) ?_; intro w10 hM'; clear hM; have hM := hM'; clear hM'
                  simp only [List.take_zero, List.take_succ_cons, List.drop_zero, List.drop_succ_cons, List.take_nil, List.drop_nil, List.nil_append, List.append_nil, List.cons_append] at hM
                  refine q_nil (q_nx ?_)
                  refine o_cut (fun _ => True) ?_
                  refine o_re ?_
                  refine o_weak (fun _ => False) (fun _ _ => trivial) ?_
                  refine o_leaf rfl rfl ?_
                  refine q_nil (q_ph (q_nil ?_))
                  replace hE : Env a 48 [(0, _), (2, _), (3, _), (4, _), (9, _)] := hE.sel [0, 2, 3, 4, 9] rfl
                  refine hK4 _ _ ?_
                  refine wp_seq_k (fun K5 hK5 => ?_)
                  refine wp_plain [true, false, true, true, true, true, true] rfl rfl ?_
                  refine s_loadN hE rfl (hM.get 0 rfl) row67 rfl (by intro X h; cases h) rfl ?_; clear hE a; intro a hE
                  replace hE := hE.cast 33 rfl (show _ = Value.agg ([[.int .u64 ((val ((bs.drop 8).take 8) : Nat) : Int)], bv ((bs.drop 16).take 32), bv ((bs.drop 48).take 32), bv ((bs.drop 80).take 32), [.int .i64 ((val ((bs.drop 112).take 4) : Nat) : Int)], [.int .i64 ((val ((bs.drop 116).take 4) : Nat) : Int)]] : List (List Value)).flatten.toArray from (by first | rfl | simp))
                  refine s_call hE rfl Try.call27 (rputroot_bad (val ((bs.drop 8).take 8)) ((bs.drop 16).take 32) ((bs.drop 48).take 32) ((bs.drop 80).take 32) ((val ((bs.drop 112).take 4) : Nat) : Int) ((val ((bs.drop 116).take 4) : Nat) : Int) _ (by first | (simp; done) | (simp [*]; done) | (simp; omega)) (by first | (simp; done) | (simp [*]; done) | (simp; omega)) (by first | (simp; done) | (simp [*]; done) | (simp; omega)) hro) rfl ?_
                  rintro e w11 ⟨rfl, hN⟩
                  refine ⟨_, rfl, trivial, ?_⟩; clear hE a; intro a hE
                  replace hM : Mem _ _ w11 [_, _, _, _, _, _, _, _, _] := hM.call0 hN trivial; clear hN
                  refine s_move hE rfl rfl ?_; clear hE a; intro a hE
                  refine s_extract hE rfl rfl rfl ?_; clear hE a; intro a hE
                  refine s_extract hE rfl rfl rfl ?_; clear hE a; intro a hE
                  refine s_assign hE rfl rfl ?_; clear hE a; intro a hE
                  refine s_assign hE rfl rfl ?_; clear hE a; intro a hE
                  refine q_nil ?_
                  replace hE : Env a 48 [(0, _), (2, _), (3, _), (4, _), (5, _), (6, _), (9, _)] := hE.sel [0, 2, 3, 4, 5, 6, 9] rfl
                  refine hK5 _ _ ?_
                  refine wp_seq_k (fun K6 hK6 => ?_)
                  refine wp_seq_k (fun K7 hK7 => ?_)
                  refine wp_plain [true, true, true, true, true, true, true, true, true] rfl rfl ?_
                  refine s_move hE rfl rfl ?_; clear hE a; intro a hE
                  refine s_bin hE rfl rfl bin_neq rfl ?_; clear hE a; intro a hE
                  replace hE := hE.cast 38 rfl (show _ = Value.bool true from (congrArg Value.bool (by decide)))
                  refine s_move hE rfl rfl ?_; clear hE a; intro a hE
                  refine g_no (b := true) hE rfl rfl rfl ?_; clear hE a; intro a hE
                  refine g_no (b := true) hE rfl rfl rfl ?_; clear hE a; intro a hE
                  refine g_no (b := true) hE rfl rfl rfl ?_; clear hE a; intro a hE
                  refine g_no (b := true) hE rfl rfl rfl ?_; clear hE a; intro a hE
                  refine g_no (b := true) hE rfl rfl rfl ?_; clear hE a; intro a hE
                  refine s_pickt hE rfl rfl rfl ?_; clear hE a; intro a hE
                  refine q_nil ?_
                  replace hE : Env a 48 [(0, _), (2, _), (3, _), (4, _), (9, _), (45, _)] := hE.sel [0, 2, 3, 4, 9, 45] rfl
                  refine hK7 _ _ ?_
                  refine wp_cond_true (hE.eval rfl) ?_
                  refine wp_seq_k (fun K8 hK8 => ?_)
                  refine wp_plain [true, false, true] rfl rfl ?_
                  refine s_buildS [] hE rfl zero67 rfl fpl67 (by simp [PartsOk, Value.cells, *]) rfl ?_; clear hE a; intro a hE
                  replace hE := hE.cast 46 rfl (show _ = Value.agg ([[.int .u64 0], bv (List.replicate 32 (0 : UInt8)), bv (List.replicate 32 (0 : UInt8)), bv (List.replicate 32 (0 : UInt8)), [.int .i64 0], [.int .i64 0]] : List (List Value)).flatten.toArray from (by first | rfl | simp [setAll]))
                  replace hM : Mem _ _ w11 [_, _, _, _, _, _, _, _, _] := hM.pick [7, 0, 1, 2, 3, 4, 5, 6, 8] rfl
                  refine s_storeSegs 0 6 (vss := [[.int .u64 0], bv (List.replicate 32 (0 : UInt8)), bv (List.replicate 32 (0 : UInt8)), bv (List.replicate 32 (0 : UInt8)), [.int .i64 0], [.int .i64 0]]) hE rfl rfl hM rfl sz67 (by have hl_s1 : (List.replicate 32 (0 : UInt8)).length = 32 := (by first | (simp; done) | (simp [*]; done) | (simp; omega)); have hl_s2 : (List.replicate 32 (0 : UInt8)).length = 32 := (by first | (simp; done) | (simp [*]; done) | (simp; omega)); have hl_s3 : (List.replicate 32 (0 : UInt8)).length = 32 := (by first | (simp; done) | (simp [*]; done) | (simp; omega));  simp only [List.map_cons, List.map_nil, bv_length, List.length_cons, List.length_nil, List.take_succ_cons, List.take_zero, List.drop_zero, List.drop_succ_cons, hl_s1, hl_s2, hl_s3]) (by decide) rfl (one_fl ⟨one1 rfl, bv_one _, bv_one _, bv_one _, one1 rfl, one1 rfl, trivial⟩) rfl (by intro X h; cases h) ?_; intro w12 hM'; clear hM; have hM := hM'; clear hM'
                  simp only [List.take_zero, List.take_succ_cons, List.drop_zero, List.drop_succ_cons, List.take_nil, List.drop_nil, List.nil_append, List.append_nil, List.cons_append] at hM
                  refine s_assign hE rfl rfl ?_; clear hE a; intro a hE
                  refine q_nil ?_
                  replace hE : Env a 48 [(0, _), (2, _), (3, _), (4, _), (9, _), (45, _)] := hE.sel [0, 2, 3, 4, 9, 45] rfl
                  refine hK8 _ _ ?_
                  refine wp_ret ?_
                  refine q_then_r ?_
                  refine f_ret2 hE rfl (res_cellN rfl (hM.get 0 rfl) row67 rfl) rfl ?_
                  exact ⟨(by first | rfl | simp), hM.pick [] rfl⟩
                trivial
              trivial
            trivial
          trivial
        trivial
      trivial
    trivial
  refine o_or rfl ?_ ?_
  · refine s_alloc [1, 32, 32, 32, 1, 1] hE hM zero67 rfl rfl ?_; clear hE a; intro a b4 w3 hE hM'
    clear hM; have hM := hM'; clear hM'
    refine q_nil (q_nx ?_)
    refine o_re ?_
    refine o_fl rfl ?_
    refine q_nil (q_nx ?_)
    refine o_fl rfl ?_
    refine q_nil (q_nx ?_)
    refine o_or rfl ?_ ?_
    · refine s_call hE rfl Try.call58 (rvalue_c _ ((bs.drop 8).take 8) _ _ (hM.get 6 rfl) (by have hl_0 : ((bs.drop 8).take 8).length = 8 := (by have hl_q : bs.length = 128 := hl; simp; try omega); first | omega | assumption | (simp; done) | (simp; omega) | decide)) rfl ?_
      rintro e w4 ⟨rfl, hN⟩
      refine ⟨_, rfl, hN.sta0 _, ?_⟩; clear hE a; intro a hE
      replace hM : Mem _ _ w4 [_, _, _, _, _, _, _, _, _] := hM.call0 hN trivial; clear hN
      refine q_nil (q_nx ?_)
      refine o_re ?_
      refine o_fl rfl ?_
      refine q_nil (q_nx ?_)
      refine o_fl rfl ?_
      refine q_nil (q_nx ?_)
      refine o_or rfl ?_ ?_
      · refine s_call hE rfl Try.call59 (rtagof_c _ ((bs.drop 16).take 32) _ _ (hM.get 5 rfl) (by have hl_0 : ((bs.drop 16).take 32).length = 32 := (by have hl_q : bs.length = 128 := hl; simp; try omega); first | omega | assumption | (simp; done) | (simp; omega) | decide)) rfl ?_
        rintro e w5 ⟨rfl, hN⟩
        refine ⟨_, rfl, hN.sta0 _, ?_⟩; clear hE a; intro a hE
        replace hM : Mem _ _ w5 [_, _, _, _, _, _, _, _, _] := hM.call0 hN trivial; clear hN
        refine q_nil (q_nx ?_)
        refine o_re ?_
        refine o_fl rfl ?_
        refine q_nil (q_nx ?_)
        refine o_fl rfl ?_
        refine q_nil (q_nx ?_)
        refine o_or rfl ?_ ?_
        · refine s_call hE rfl Try.call59 (rtagof_c _ ((bs.drop 48).take 32) _ _ (hM.get 4 rfl) (by have hl_0 : ((bs.drop 48).take 32).length = 32 := (by have hl_q : bs.length = 128 := hl; simp; try omega); first | omega | assumption | (simp; done) | (simp; omega) | decide)) rfl ?_
          rintro e w6 ⟨rfl, hN⟩
          refine ⟨_, rfl, hN.sta0 _, ?_⟩; clear hE a; intro a hE
          replace hM : Mem _ _ w6 [_, _, _, _, _, _, _, _, _] := hM.call0 hN trivial; clear hN
          refine q_nil (q_nx ?_)
          refine o_re ?_
          refine o_fl rfl ?_
          refine q_nil (q_nx ?_)
          refine o_fl rfl ?_
          refine q_nil (q_nx ?_)
          refine o_or rfl ?_ ?_
          · refine s_call hE rfl Try.call59 (rtagof_c _ ((bs.drop 80).take 32) _ _ (hM.get 3 rfl) (by have hl_0 : ((bs.drop 80).take 32).length = 32 := (by have hl_q : bs.length = 128 := hl; simp; try omega); first | omega | assumption | (simp; done) | (simp; omega) | decide)) rfl ?_
            rintro e w7 ⟨rfl, hN⟩
            refine ⟨_, rfl, hN.sta0 _, ?_⟩; clear hE a; intro a hE
            replace hM : Mem _ _ w7 [_, _, _, _, _, _, _, _, _] := hM.call0 hN trivial; clear hN
            refine q_nil (q_nx ?_)
            refine o_re ?_
            refine o_fl rfl ?_
            refine q_nil (q_nx ?_)
            refine o_fl rfl ?_
            refine q_nil (q_nx ?_)
            refine o_or rfl ?_ ?_
            · refine s_call hE rfl Try.call58 (rvalue_c _ ((bs.drop 112).take 4) _ _ (hM.get 2 rfl) (by have hl_0 : ((bs.drop 112).take 4).length = 4 := (by have hl_q : bs.length = 128 := hl; simp; try omega); first | omega | assumption | (simp; done) | (simp; omega) | decide)) rfl ?_
              rintro e w8 ⟨rfl, hN⟩
              refine ⟨_, rfl, hN.sta0 _, ?_⟩; clear hE a; intro a hE
              replace hM : Mem _ _ w8 [_, _, _, _, _, _, _, _, _] := hM.call0 hN trivial; clear hN
              refine q_nil (q_nx ?_)
              refine o_re ?_
              refine o_fl rfl ?_
              refine s_conv hE rfl (cnv_int Try.underlying24 Try.underlying3 (wrap_i64 (by omega) (by omega))) rfl ?_; clear hE a; intro a hE
              refine q_nil (q_nx ?_)
              refine o_fl rfl ?_
              refine q_nil (q_nx ?_)
              refine o_or rfl ?_ ?_
              · refine s_call hE rfl Try.call58 (rvalue_c _ ((bs.drop 116).take 4) _ _ (hM.get 1 rfl) (by have hl_0 : ((bs.drop 116).take 4).length = 4 := (by have hl_q : bs.length = 128 := hl; simp; try omega); first | omega | assumption | (simp; done) | (simp; omega) | decide)) rfl ?_
                rintro e w9 ⟨rfl, hN⟩
                refine ⟨_, rfl, hN.sta0 _, ?_⟩; clear hE a; intro a hE
                replace hM : Mem _ _ w9 [_, _, _, _, _, _, _, _, _] := hM.call0 hN trivial; clear hN
                refine q_nil (q_nx ?_)
                refine o_re ?_
                refine o_fl rfl ?_
                refine s_conv hE rfl (cnv_int Try.underlying24 Try.underlying3 (wrap_i64 (by omega) (by omega))) rfl ?_; clear hE a; intro a hE
                refine s_buildS [[.int .u64 ((val ((bs.drop 8).take 8) : Nat) : Int)], bv ((bs.drop 16).take 32), bv ((bs.drop 48).take 32), bv ((bs.drop 80).take 32), [.int .i64 ((val ((bs.drop 112).take 4) : Nat) : Int)], [.int .i64 ((val ((bs.drop 116).take 4) : Nat) : Int)]] hE rfl zero67 rfl fpl67 (by simp [PartsOk, Value.cells, *]) rfl ?_; clear hE a; intro a hE
                replace hE := hE.cast 31 rfl (show _ = Value.agg ([[.int .u64 ((val ((bs.drop 8).take 8) : Nat) : Int)], bv ((bs.drop 16).take 32), bv ((bs.drop 48).take 32), bv ((bs.drop 80).take 32), [.int .i64 ((val ((bs.drop 112).take 4) : Nat) : Int)], [.int .i64 ((val ((bs.drop 116).take 4) : Nat) : Int)]] : List (List Value)).flatten.toArray from (by first | rfl | simp [setAll]))
                refine q_nil (q_nx ?_)
                refine o_fl rfl ?_
                refine q_nil (q_nx ?_)
                refine o_weak (fun b => b = b4) (fun _ _ => trivial) ?_
                refine o_or rfl ?_ ?_
                · refine s_storeSegs 0 6 (vss := [[.int .u64 ((val ((bs.drop 8).take 8) : Nat) : Int)], bv ((bs.drop 16).take 32), bv ((bs.drop 48).take 32), bv ((bs.drop 80).take 32), [.int .i64 ((val ((bs.drop 112).take 4) : Nat) : Int)], [.int .i64 ((val ((bs.drop 116).take 4) : Nat) : Int)]]) hE rfl rfl hM rfl sz67 (by have hl_s1 : ((bs.drop 16).take 32).length = 32 := (by first | (simp; done) | (simp [*]; done) | (simp; omega)); have hl_s2 : ((bs.drop 48).take 32).length = 32 := (by first | (simp; done) | (simp [*]; done) | (simp; omega)); have hl_s3 : ((bs.drop 80).take 32).length = 32 := (by first | (simp; done) | (simp [*]; done) | (simp; omega));  simp only [List.map_cons, List.map_nil, bv_length, List.length_cons, List.length_nil, List.take_succ_cons, List.take_zero, List.drop_zero, List.drop_succ_cons, hl_s1, hl_s2, hl_s3]) (by decide) rfl (one_fl ⟨one1 rfl, bv_one _, bv_one _, bv_one _, one1 rfl, one1 rfl, trivial⟩) rfl (by intro X h; cases h; rfl) ?_; intro w10 hM'; clear hM; have hM := hM'; clear hM'
                  simp only [List.take_zero, List.take_succ_cons, List.drop_zero, List.drop_succ_cons, List.take_nil, List.drop_nil, List.nil_append, List.append_nil, List.cons_append] at hM
                  refine q_nil (q_nx ?_)
                  refine o_cut (fun _ => True) ?_
                  refine o_re ?_
                  refine o_weak (fun _ => False) (fun _ _ => trivial) ?_
                  refine o_leaf rfl rfl ?_
                  refine q_nil (q_ph (q_nil ?_))
                  replace hE : Env a 48 [(0, _), (2, _), (3, _), (4, _), (9, _)] := hE.sel [0, 2, 3, 4, 9] rfl
                  refine hK4 _ _ ?_
                  refine wp_seq_k (fun K5 hK5 => ?_)
                  refine wp_plain [true, false, true, true, true, true, true] rfl rfl ?_
                  refine s_loadN hE rfl (hM.get 0 rfl) row67 rfl (by intro X h; cases h) rfl ?_; clear hE a; intro a hE
                  replace hE := hE.cast 33 rfl (show _ = Value.agg ([[.int .u64 ((val ((bs.drop 8).take 8) : Nat) : Int)], bv ((bs.drop 16).take 32), bv ((bs.drop 48).take 32), bv ((bs.drop 80).take 32), [.int .i64 ((val ((bs.drop 112).take 4) : Nat) : Int)], [.int .i64 ((val ((bs.drop 116).take 4) : Nat) : Int)]] : List (List Value)).flatten.toArray from (by first | rfl | simp))
                  refine s_call hE rfl Try.call27 (rputroot_bad (val ((bs.drop 8).take 8)) ((bs.drop 16).take 32) ((bs.drop 48).take 32) ((bs.drop 80).take 32) ((val ((bs.drop 112).take 4) : Nat) : Int) ((val ((bs.drop 116).take 4) : Nat) : Int) _ (by first | (simp; done) | (simp [*]; done) | (simp; omega)) (by first | (simp; done) | (simp [*]; done) | (simp; omega)) (by first | (simp; done) | (simp [*]; done) | (simp; omega)) hro) rfl ?_
                  rintro e w11 ⟨rfl, hN⟩
                  refine ⟨_, rfl, trivial, ?_⟩; clear hE a; intro a hE
                  replace hM : Mem _ _ w11 [_, _, _, _, _, _, _, _, _] := hM.call0 hN trivial; clear hN
                  refine s_move hE rfl rfl ?_; clear hE a; intro a hE
                  refine s_extract hE rfl rfl rfl ?_; clear hE a; intro a hE
                  refine s_extract hE rfl rfl rfl ?_; clear hE a; intro a hE
                  refine s_assign hE rfl rfl ?_; clear hE a; intro a hE
                  refine s_assign hE rfl rfl ?_; clear hE a; intro a hE
                  refine q_nil ?_
                  replace hE : Env a 48 [(0, _), (2, _), (3, _), (4, _), (5, _), (6, _), (9, _)] := hE.sel [0, 2, 3, 4, 5, 6, 9] rfl
                  refine hK5 _ _ ?_
                  refine wp_seq_k (fun K6 hK6 => ?_)
                  refine wp_seq_k (fun K7 hK7 => ?_)
                  refine wp_plain [true, true, true, true, true, true, true, true, true] rfl rfl ?_
                  refine s_move hE rfl rfl ?_; clear hE a; intro a hE
                  refine s_bin hE rfl rfl bin_neq rfl ?_; clear hE a; intro a hE
                  replace hE := hE.cast 38 rfl (show _ = Value.bool true from (congrArg Value.bool (by decide)))
                  refine s_move hE rfl rfl ?_; clear hE a; intro a hE
                  refine g_no (b := true) hE rfl rfl rfl ?_; clear hE a; intro a hE
                  refine g_no (b := true) hE rfl rfl rfl ?_; clear hE a; intro a hE
                  refine g_no (b := true) hE rfl rfl rfl ?_; clear hE a; intro a hE
                  refine g_no (b := true) hE rfl rfl rfl ?_; clear hE a; intro a hE
                  refine g_no (b := true) hE rfl rfl rfl ?_; clear hE a; intro a hE
                  refine s_pickt hE rfl rfl rfl ?_; clear hE a; intro a hE
                  refine q_nil ?_
                  replace hE : Env a 48 [(0, _), (2, _), (3, _), (4, _), (9, _), (45, _)] := hE.sel [0, 2, 3, 4, 9, 45] rfl
                  refine hK7 _ _ ?_
                  refine wp_cond_true (hE.eval rfl) ?_
                  refine wp_seq_k (fun K8 hK8 => ?_)
                  refine wp_plain [true, false, true] rfl rfl ?_
                  refine s_buildS [] hE rfl zero67 rfl fpl67 (by simp [PartsOk, Value.cells, *]) rfl ?_; clear hE a; intro a hE
                  replace hE := hE.cast 46 rfl (show _ = Value.agg ([[.int .u64 0], bv (List.replicate 32 (0 : UInt8)), bv (List.replicate 32 (0 : UInt8)), bv (List.replicate 32 (0 : UInt8)), [.int .i64 0], [.int .i64 0]] : List (List Value)).flatten.toArray from (by first | rfl | simp [setAll]))
                  replace hM : Mem _ _ w11 [_, _, _, _, _, _, _, _, _] := hM.pick [7, 0, 1, 2, 3, 4, 5, 6, 8] rfl
                  refine s_storeSegs 0 6 (vss := [[.int .u64 0], bv (List.replicate 32 (0 : UInt8)), bv (List.replicate 32 (0 : UInt8)), bv (List.replicate 32 (0 : UInt8)), [.int .i64 0], [.int .i64 0]]) hE rfl rfl hM rfl sz67 (by have hl_s1 : (List.replicate 32 (0 : UInt8)).length = 32 := (by first | (simp; done) | (simp [*]; done) | (simp; omega)); have hl_s2 : (List.replicate 32 (0 : UInt8)).length = 32 := (by first | (simp; done) | (simp [*]; done) | (simp; omega)); have hl_s3 : (List.replicate 32 (0 : UInt8)).length = 32 := (by first | (simp; done) | (simp [*]; done) | (simp; omega));  simp only [List.map_cons, List.map_nil, bv_length, List.length_cons, List.length_nil, List.take_succ_cons, List.take_zero, List.drop_zero, List.drop_succ_cons, hl_s1, hl_s2, hl_s3]) (by decide) rfl (one_fl ⟨one1 rfl, bv_one _, bv_one _, bv_one _, one1 rfl, one1 rfl, trivial⟩) rfl (by intro X h; cases h) ?_; intro w12 hM'; clear hM; have hM := hM'; clear hM'
                  simp only [List.take_zero, List.take_succ_cons, List.drop_zero, List.drop_succ_cons, List.take_nil, List.drop_nil, List.nil_append, List.append_nil, List.cons_append] at hM
                  refine s_assign hE rfl rfl ?_; clear hE a; intro a hE
                  refine q_nil ?_
                  replace hE : Env a 48 [(0, _), (2, _), (3, _), (4, _), (9, _), (45, _)] := hE.sel [0, 2, 3, 4, 9, 45] rfl
                  refine hK8 _ _ ?_
                  refine wp_ret ?_
                  refine q_then_r ?_
                  refine f_ret2 hE rfl (res_cellN rfl (hM.get 0 rfl) row67 rfl) rfl ?_
                  exact ⟨(by first | rfl | simp), hM.pick [] rfl⟩
                trivial
              trivial
            trivial
          trivial
        trivial
      trivial
    trivial
  trivial
theorem rgetroot_bad2 (v : Value) (bs : List UInt8) (c : Nat) (w : World) (hr_bs : (rd v 1 bs.length c (bv bs)).holds w) (hl : bs.length = 128) (hro : rootOk (val ((bs.drop 8).take 8)) (val ((bs.drop 112).take 4) : Nat) (val ((bs.drop 116).take 4) : Nat) = true) (hrb : rootB (val ((bs.drop 8).take 8)) ((bs.drop 16).take 32) ((bs.drop 48).take 32) ((bs.drop 80).take 32) (val ((bs.drop 112).take 4)) (val ((bs.drop 116).take 4)) ≠ bs) : Calls Try.prog 29 #[v] w fun e w' => e = .returned (.tuple #[.agg ([[.int .u64 0], bv (List.replicate 32 (0 : UInt8)), bv (List.replicate 32 (0 : UInt8)), bv (List.replicate 32 (0 : UInt8)), [.int .i64 0], [.int .i64 0]] : List (List Value)).flatten.toArray, .int .i64 4]) ∧ Mem w [] w' [] := by
  have hv4a := val4 (l := (bs.drop 112).take 4) (by simp [hl])
  have hv4b := val4 (l := (bs.drop 116).take 4) (by simp [hl])
  have hv8 := val8 (l := (bs.drop 8).take 8) (by simp [hl])
  obtain ⟨hc62, hm31, hy31⟩ := rootOk_le hro
  have hM : Mem w [] w [rd v 1 bs.length c (bv bs)] := Mem.startR w (fun g hg => by
    simp only [List.mem_cons, List.not_mem_nil, or_false] at hg
    rcases hg with rfl
    · exact ⟨hr_bs, rfl⟩)
  refine f_enter 48 Try.func29 rfl rfl rfl ?_
  intro a hE
  replace hE : Env a 48 [(0, _)] := hE
  refine wp_seq_k (fun K1 hK1 => ?_)
  refine wp_plain [false, true] rfl rfl ?_
  refine s_alloc [1, 32, 32, 32, 1, 1] hE hM zero67 rfl rfl ?_; clear hE a; intro a b2 w1 hE hM'
  clear hM; have hM := hM'; clear hM'
  refine s_assign hE rfl rfl ?_; clear hE a; intro a hE
  refine q_nil ?_
  refine hK1 _ _ ?_
  refine wp_seq_k (fun K2 hK2 => ?_)
  refine wp_seq_k (fun K3 hK3 => ?_)
  refine wp_plain [true, true, true] rfl rfl ?_
  refine s_move hE rfl rfl ?_; clear hE a; intro a hE
  refine s_len hE rfl Try.underlying55 (rd_slice (hM.get 1 rfl)) rfl ?_; clear hE a; intro a hE
  replace hE := hE.cast 8 rfl (show _ = Value.int .i64 ((128 : Nat) : Int) from (congrArg (fun n : Nat => Value.int .i64 (n : Int)) hl))
  refine s_bin hE rfl rfl bin_neq rfl ?_; clear hE a; intro a hE
  replace hE := hE.cast 9 rfl (show _ = Value.bool false from (congrArg Value.bool (by decide)))
  refine q_nil ?_
  replace hE : Env a 48 [(0, _), (2, _), (3, _), (9, _)] := hE.sel [0, 2, 3, 9] rfl
  refine hK3 _ _ ?_
  refine wp_cond_false (hE.eval rfl) ?_
  refine wp_skip ?_
  refine hK2 _ _ ?_
  refine wp_seq_k (fun K4 hK4 => ?_)
  refine wp_treeM hM (by kernel_rfl) (fun _ => True) (fun _ => True) (.re [(0, true), (1, true), (3, true), (4, true), (6, true), (7, true), (9, true), (10, true), (12, true), (13, true), (16, true), (17, true), (2, false), (5, false), (8, false), (11, false), (14, false), (15, true), (18, false), (19, true), (20, true), (21, false), (22, false)] (.fl 12 (.fl 0 (.or 2 (.re [(5, false), (8, false), (11, false), (14, false), (15, true), (18, false), (19, true), (20, true), (21, false), (22, false)] (.fl 0 (.fl 0 (.or 5 (.re [(8, false), (11, false), (14, false), (15, true), (18, false), (19, true), (20, true), (21, false), (22, false)] (.fl 0 (.fl 0 (.or 8 (.re [(11, false), (14, false), (15, true), (18, false), (19, true), (20, true), (21, false), (22, false)] (.fl 0 (.fl 0 (.or 11 (.re [(14, false), (15, true), (18, false), (19, true), (20, true), (21, false), (22, false)] (.fl 0 (.fl 0 (.or 14 (.re [(15, true), (18, false), (19, true), (20, true), (21, false), (22, false)] (.fl 1 (.fl 0 (.or 18 (.re [(19, true), (20, true), (21, false), (22, false)] (.fl 2 (.fl 0 (.or 21 (.re [(22, false)] (.fl 0 (.fl 0 (.weak (.or 22 (.cut (.re [] (.weak (.leaf 0)))) (.stop)))))) (.stop))))) (.or 21 (.re [(18, false), (19, true), (20, true), (22, false)] (.fl 0 (.fl 0 (.or 18 (.re [(19, true), (20, true), (22, false)] (.fl 2 (.fl 0 (.weak (.or 22 (.cut (.re [] (.weak (.leaf 0)))) (.stop)))))) (.stop))))) (.stop)))))) (.or 21 (.re [(14, false), (15, true), (18, false), (19, true), (20, true), (22, false)] (.fl 0 (.fl 0 (.or 14 (.re [(15, true), (18, false), (19, true), (20, true), (22, false)] (.fl 1 (.fl 0 (.or 18 (.re [(19, true), (20, true), (22, false)] (.fl 2 (.fl 0 (.weak (.or 22 (.cut (.re [] (.weak (.leaf 0)))) (.stop)))))) (.stop))))) (.stop))))) (.stop)))))) (.or 21 (.re [(11, false), (14, false), (15, true), (18, false), (19, true), (20, true), (22, false)] (.fl 0 (.fl 0 (.or 11 (.re [(14, false), (15, true), (18, false), (19, true), (20, true), (22, false)] (.fl 0 (.fl 0 (.or 14 (.re [(15, true), (18, false), (19, true), (20, true), (22, false)] (.fl 1 (.fl 0 (.or 18 (.re [(19, true), (20, true), (22, false)] (.fl 2 (.fl 0 (.weak (.or 22 (.cut (.re [] (.weak (.leaf 0)))) (.stop)))))) (.stop))))) (.stop))))) (.stop))))) (.stop)))))) (.or 21 (.re [(8, false), (11, false), (14, false), (15, true), (18, false), (19, true), (20, true), (22, false)] (.fl 0 (.fl 0 (.or 8 (.re [(11, false), (14, false), (15, true), (18, false), (19, true), (20, true), (22, false)] (.fl 0 (.fl 0 (.or 11 (.re [(14, false), (15, true), (18, false), (19, true), (20, true), (22, false)] (.fl 0 (.fl 0 (.or 14 (.re [(15, true), (18, false), (19, true), (20, true), (22, false)] (.fl 1 (.fl 0 (.or 18 (.re [(19, true), (20, true), (22, false)] (.fl 2 (.fl 0 (.weak (.or 22 (.cut (.re [] (.weak (.leaf 0)))) (.stop)))))) (.stop))))) (.stop))))) (.stop))))) (.stop))))) (.stop)))))) (.or 21 (.re [(5, false), (8, false), (11, false), (14, false), (15, true), (18, false), (19, true), (20, true), (22, false)] (.fl 0 (.fl 0 (.or 5 (.re [(8, false), (11, false), (14, false), (15, true), (18, false), (19, true), (20, true), (22, false)] (.fl 0 (.fl 0 (.or 8 (.re [(11, false), (14, false), (15, true), (18, false), (19, true), (20, true), (22, false)] (.fl 0 (.fl 0 (.or 11 (.re [(14, false), (15, true), (18, false), (19, true), (20, true), (22, false)] (.fl 0 (.fl 0 (.or 14 (.re [(15, true), (18, false), (19, true), (20, true), (22, false)] (.fl 1 (.fl 0 (.or 18 (.re [(19, true), (20, true), (22, false)] (.fl 2 (.fl 0 (.weak (.or 22 (.cut (.re [] (.weak (.leaf 0)))) (.stop)))))) (.stop))))) (.stop))))) (.stop))))) (.stop))))) (.stop))))) (.stop)))))) (.or 21 (.re [(2, false), (5, false), (8, false), (11, false), (14, false), (15, true), (18, false), (19, true), (20, true), (22, false)] (.fl 0 (.fl 0 (.or 2 (.re [(5, false), (8, false), (11, false), (14, false), (15, true), (18, false), (19, true), (20, true), (22, false)] (.fl 0 (.fl 0 (.or 5 (.re [(8, false), (11, false), (14, false), (15, true), (18, false), (19, true), (20, true), (22, false)] (.fl 0 (.fl 0 (.or 8 (.re [(11, false), (14, false), (15, true), (18, false), (19, true), (20, true), (22, false)] (.fl 0 (.fl 0 (.or 11 (.re [(14, false), (15, true), (18, false), (19, true), (20, true), (22, false)] (.fl 0 (.fl 0 (.or 14 (.re [(15, true), (18, false), (19, true), (20, true), (22, false)] (.fl 1 (.fl 0 (.or 18 (.re [(19, true), (20, true), (22, false)] (.fl 2 (.fl 0 (.weak (.or 22 (.cut (.re [] (.weak (.leaf 0)))) (.stop)))))) (.stop))))) (.stop))))) (.stop))))) (.stop))))) (.stop))))) (.stop))))) (.stop)))))) [(0, true), (1, true), (3, true), (4, true), (6, true), (7, true), (9, true), (10, true), (12, true), (13, true), (16, true), (17, true), (2, false), (5, false), (8, false), (11, false), (14, false), (15, true), (18, false), (19, true), (20, true), (21, false), (22, false)] [(1, [(2, 1), (5, 2), (8, 5), (11, 8), (14, 11), (15, 14), (18, 14), (19, 18), (20, 2), (22, 1)]), (2, [(5, 2), (8, 5), (11, 8), (14, 11), (15, 14), (18, 14), (19, 18), (20, 2), (22, 2)]), (4, [(5, 4), (8, 5), (11, 8), (14, 11), (15, 14), (18, 14), (19, 18), (20, 5), (22, 4)]), (5, [(8, 5), (11, 8), (14, 11), (15, 14), (18, 14), (19, 18), (20, 5), (22, 5)]), (7, [(8, 7), (11, 8), (14, 11), (15, 14), (18, 14), (19, 18), (20, 8), (22, 7)]), (8, [(11, 8), (14, 11), (15, 14), (18, 14), (19, 18), (20, 8), (22, 8)]), (10, [(11, 10), (14, 11), (15, 14), (18, 14), (19, 18), (20, 11), (22, 10)]), (11, [(14, 11), (15, 14), (18, 14), (19, 18), (20, 11), (22, 11)]), (13, [(14, 13), (15, 14), (18, 14), (19, 18), (20, 15), (22, 13)]), (14, [(15, 14), (18, 14), (19, 18), (20, 15), (22, 14)]), (15, [(20, 15), (22, 15)]), (17, [(18, 17), (19, 18), (20, 19), (22, 17)]), (18, [(19, 18), (20, 19), (22, 18)]), (19, [(20, 19), (22, 19)]), (20, [(22, 20)]), (21, [(22, 21)]), (22, [])] (by kernel_rfl) ?_
  intro w2 hM' hww2; clear hM; have hM := hM'; clear hM'
  refine o_re ?_
  refine o_fl rfl ?_
  refine s_move hE rfl rfl ?_; clear hE a; intro a hE
  have hcap12 := rd_len (hM.get 1 rfl)
  refine s_slice (l := 8) (h := 16) (mx' := c) hE rfl (hM.get 1 rfl) slt55 ⟨_, rfl⟩ ⟨_, rfl⟩ rfl (by simp) (by have hl_ : bs.length = 128 := hl; first | omega | assumption | (simp; done) | (simp; omega) | decide) (by have hl_ : bs.length = 128 := hl; first | omega | assumption | (simp; done) | (simp; omega) | decide) (by have hl_ : bs.length = 128 := hl; first | omega | assumption | (simp; done) | (simp; omega) | decide) (by have hl_ : bs.length = 128 := hl; first | omega | assumption | (simp; done) | (simp; omega) | decide) rfl ?_; clear hE a; intro a v12 hE hr12 hvb12
  replace hr12 : (rd v12 1 ((bs.drop 8).take 8).length (c - 8) (bv ((bs.drop 8).take 8))).holds _ := rd_mid (by first | omega | assumption | (simp; done) | (simp; omega) | decide) hr12
  replace hM := hM.addPart 1 rfl hr12 hvb12; clear hr12
  refine s_move hE rfl rfl ?_; clear hE a; intro a hE
  have hcap15 := rd_len (hM.get 2 rfl)
  refine s_slice (l := 16) (h := 48) (mx' := c) hE rfl (hM.get 2 rfl) slt55 ⟨_, rfl⟩ ⟨_, rfl⟩ rfl (by simp) (by have hl_ : bs.length = 128 := hl; first | omega | assumption | (simp; done) | (simp; omega) | decide) (by have hl_ : bs.length = 128 := hl; first | omega | assumption | (simp; done) | (simp; omega) | decide) (by have hl_ : bs.length = 128 := hl; first | omega | assumption | (simp; done) | (simp; omega) | decide) (by have hl_ : bs.length = 128 := hl; first | omega | assumption | (simp; done) | (simp; omega) | decide) rfl ?_; clear hE a; intro a v15 hE hr15 hvb15
  replace hr15 : (rd v15 1 ((bs.drop 16).take 32).length (c - 16) (bv ((bs.drop 16).take 32))).holds _ := rd_mid (by first | omega | assumption | (simp; done) | (simp; omega) | decide) hr15
  replace hM := hM.addPart 2 rfl hr15 hvb15; clear hr15
  refine s_move hE rfl rfl ?_; clear hE a; intro a hE
  have hcap18 := rd_len (hM.get 3 rfl)
  refine s_slice (l := 48) (h := 80) (mx' := c) hE rfl (hM.get 3 rfl) slt55 ⟨_, rfl⟩ ⟨_, rfl⟩ rfl (by simp) (by have hl_ : bs.length = 128 := hl; first | omega | assumption | (simp; done) | (simp; omega) | decide) (by have hl_ : bs.length = 128 := hl; first | omega | assumption | (simp; done) | (simp; omega) | decide) (by have hl_ : bs.length = 128 := hl; first | omega | assumption | (simp; done) | (simp; omega) | decide) (by have hl_ : bs.length = 128 := hl; first | omega | assumption | (simp; done) | (simp; omega) | decide) rfl ?_; clear hE a; intro a v18 hE hr18 hvb18
  replace hr18 : (rd v18 1 ((bs.drop 48).take 32).length (c - 48) (bv ((bs.drop 48).take 32))).holds _ := rd_mid (by first | omega | assumption | (simp; done) | (simp; omega) | decide) hr18
  replace hM := hM.addPart 3 rfl hr18 hvb18; clear hr18
  refine s_move hE rfl rfl ?_; clear hE a; intro a hE
  have hcap21 := rd_len (hM.get 4 rfl)
  refine s_slice (l := 80) (h := 112) (mx' := c) hE rfl (hM.get 4 rfl) slt55 ⟨_, rfl⟩ ⟨_, rfl⟩ rfl (by simp) (by have hl_ : bs.length = 128 := hl; first | omega | assumption | (simp; done) | (simp; omega) | decide) (by have hl_ : bs.length = 128 := hl; first | omega | assumption | (simp; done) | (simp; omega) | decide) (by have hl_ : bs.length = 128 := hl; first | omega | assumption | (simp; done) | (simp; omega) | decide) (by have hl_ : bs.length = 128 := hl; first | omega | assumption | (simp; done) | (simp; omega) | decide) rfl ?_; clear hE a; intro a v21 hE hr21 hvb21
  replace hr21 : (rd v21 1 ((bs.drop 80).take 32).length (c - 80) (bv ((bs.drop 80).take 32))).holds _ := rd_mid (by first | omega | assumption | (simp; done) | (simp; omega) | decide) hr21
  replace hM := hM.addPart 4 rfl hr21 hvb21; clear hr21
  refine s_move hE rfl rfl ?_; clear hE a; intro a hE
  have hcap24 := rd_len (hM.get 5 rfl)
  refine s_slice (l := 112) (h := 116) (mx' := c) hE rfl (hM.get 5 rfl) slt55 ⟨_, rfl⟩ ⟨_, rfl⟩ rfl (by simp) (by have hl_ : bs.length = 128 := hl; first | omega | assumption | (simp; done) | (simp; omega) | decide) (by have hl_ : bs.length = 128 := hl; first | omega | assumption | (simp; done) | (simp; omega) | decide) (by have hl_ : bs.length = 128 := hl; first | omega | assumption | (simp; done) | (simp; omega) | decide) (by have hl_ : bs.length = 128 := hl; first | omega | assumption | (simp; done) | (simp; omega) | decide) rfl ?_; clear hE a; intro a v24 hE hr24 hvb24
  replace hr24 : (rd v24 1 ((bs.drop 112).take 4).length (c - 112) (bv ((bs.drop 112).take 4))).holds _ := rd_mid (by first | omega | assumption | (simp; done) | (simp; omega) | decide) hr24
  replace hM := hM.addPart 5 rfl hr24 hvb24; clear hr24
  refine s_move hE rfl rfl ?_; clear hE a; intro a hE
  have hcap28 := rd_len (hM.get 6 rfl)
  refine s_slice (l := 116) (h := 120) (mx' := c) hE rfl (hM.get 6 rfl) slt55 ⟨_, rfl⟩ ⟨_, rfl⟩ rfl (by simp) (by have hl_ : bs.length = 128 := hl; first | omega | assumption | (simp; done) | (simp; omega) | decide) (by have hl_ : bs.length = 128 := hl; first | omega | assumption | (simp; done) | (simp; omega) | decide) (by have hl_ : bs.length = 128 := hl; first | omega | assumption | (simp; done) | (simp; omega) | decide) (by have hl_ : bs.length = 128 := hl; first | omega | assumption | (simp; done) | (simp; omega) | decide) rfl ?_; clear hE a; intro a v28 hE hr28 hvb28
  replace hr28 : (rd v28 1 ((bs.drop 116).take 4).length (c - 116) (bv ((bs.drop 116).take 4))).holds _ := rd_mid (by first | omega | assumption | (simp; done) | (simp; omega) | decide) hr28
  replace hM := hM.addPart 6 rfl hr28 hvb28; clear hr28
  refine q_nil (q_nx ?_)
  refine o_fl rfl ?_
  refine q_nil (q_nx ?_)
  refine o_or rfl ?_ ?_
  · refine s_call hE rfl Try.call58 (rvalue_c _ ((bs.drop 8).take 8) _ _ (hM.get 5 rfl) (by have hl_0 : ((bs.drop 8).take 8).length = 8 := (by have hl_q : bs.length = 128 := hl; simp; try omega); first | omega | assumption | (simp; done) | (simp; omega) | decide)) rfl ?_
    rintro e w3 ⟨rfl, hN⟩
    refine ⟨_, rfl, hN.sta0 _, ?_⟩; clear hE a; intro a hE
    replace hM : Mem _ _ w3 [_, _, _, _, _, _, _, _] := hM.call0 hN trivial; clear hN
    refine q_nil (q_nx ?_)
    refine o_re ?_
    refine o_fl rfl ?_
    refine q_nil (q_nx ?_)
    refine o_fl rfl ?_
    refine q_nil (q_nx ?_)
    refine o_or rfl ?_ ?_
    · refine s_call hE rfl Try.call59 (rtagof_c _ ((bs.drop 16).take 32) _ _ (hM.get 4 rfl) (by have hl_0 : ((bs.drop 16).take 32).length = 32 := (by have hl_q : bs.length = 128 := hl; simp; try omega); first | omega | assumption | (simp; done) | (simp; omega) | decide)) rfl ?_
      rintro e w4 ⟨rfl, hN⟩
      refine ⟨_, rfl, hN.sta0 _, ?_⟩; clear hE a; intro a hE
      replace hM : Mem _ _ w4 [_, _, _, _, _, _, _, _] := hM.call0 hN trivial; clear hN
      refine q_nil (q_nx ?_)
      refine o_re ?_
      refine o_fl rfl ?_
      refine q_nil (q_nx ?_)
      refine o_fl rfl ?_
      refine q_nil (q_nx ?_)
      refine o_or rfl ?_ ?_
      · refine s_call hE rfl Try.call59 (rtagof_c _ ((bs.drop 48).take 32) _ _ (hM.get 3 rfl) (by have hl_0 : ((bs.drop 48).take 32).length = 32 := (by have hl_q : bs.length = 128 := hl; simp; try omega); first | omega | assumption | (simp; done) | (simp; omega) | decide)) rfl ?_
        rintro e w5 ⟨rfl, hN⟩
        refine ⟨_, rfl, hN.sta0 _, ?_⟩; clear hE a; intro a hE
        replace hM : Mem _ _ w5 [_, _, _, _, _, _, _, _] := hM.call0 hN trivial; clear hN
        refine q_nil (q_nx ?_)
        refine o_re ?_
        refine o_fl rfl ?_
        refine q_nil (q_nx ?_)
        refine o_fl rfl ?_
        refine q_nil (q_nx ?_)
        refine o_or rfl ?_ ?_
        · refine s_call hE rfl Try.call59 (rtagof_c _ ((bs.drop 80).take 32) _ _ (hM.get 2 rfl) (by have hl_0 : ((bs.drop 80).take 32).length = 32 := (by have hl_q : bs.length = 128 := hl; simp; try omega); first | omega | assumption | (simp; done) | (simp; omega) | decide)) rfl ?_
          rintro e w6 ⟨rfl, hN⟩
          refine ⟨_, rfl, hN.sta0 _, ?_⟩; clear hE a; intro a hE
          replace hM : Mem _ _ w6 [_, _, _, _, _, _, _, _] := hM.call0 hN trivial; clear hN
          refine q_nil (q_nx ?_)
          refine o_re ?_
          refine o_fl rfl ?_
          refine q_nil (q_nx ?_)
          refine o_fl rfl ?_
          refine q_nil (q_nx ?_)
          refine o_or rfl ?_ ?_
          · refine s_call hE rfl Try.call58 (rvalue_c _ ((bs.drop 112).take 4) _ _ (hM.get 1 rfl) (by have hl_0 : ((bs.drop 112).take 4).length = 4 := (by have hl_q : bs.length = 128 := hl; simp; try omega); first | omega | assumption | (simp; done) | (simp; omega) | decide)) rfl ?_
            rintro e w7 ⟨rfl, hN⟩
            refine ⟨_, rfl, hN.sta0 _, ?_⟩; clear hE a; intro a hE
            replace hM : Mem _ _ w7 [_, _, _, _, _, _, _, _] := hM.call0 hN trivial; clear hN
            refine q_nil (q_nx ?_)
            refine o_re ?_
            refine o_fl rfl ?_
            refine s_conv hE rfl (cnv_int Try.underlying24 Try.underlying3 (wrap_i64 (by omega) (by omega))) rfl ?_; clear hE a; intro a hE
            refine q_nil (q_nx ?_)
            refine o_fl rfl ?_
            refine q_nil (q_nx ?_)
            refine o_or rfl ?_ ?_
            · refine s_call hE rfl Try.call58 (rvalue_c _ ((bs.drop 116).take 4) _ _ (hM.get 0 rfl) (by have hl_0 : ((bs.drop 116).take 4).length = 4 := (by have hl_q : bs.length = 128 := hl; simp; try omega); first | omega | assumption | (simp; done) | (simp; omega) | decide)) rfl ?_
              rintro e w8 ⟨rfl, hN⟩
              refine ⟨_, rfl, hN.sta0 _, ?_⟩; clear hE a; intro a hE
              replace hM : Mem _ _ w8 [_, _, _, _, _, _, _, _] := hM.call0 hN trivial; clear hN
              refine q_nil (q_nx ?_)
              refine o_re ?_
              refine o_fl rfl ?_
              refine s_conv hE rfl (cnv_int Try.underlying24 Try.underlying3 (wrap_i64 (by omega) (by omega))) rfl ?_; clear hE a; intro a hE
              refine s_buildS [[.int .u64 ((val ((bs.drop 8).take 8) : Nat) : Int)], bv ((bs.drop 16).take 32), bv ((bs.drop 48).take 32), bv ((bs.drop 80).take 32), [.int .i64 ((val ((bs.drop 112).take 4) : Nat) : Int)], [.int .i64 ((val ((bs.drop 116).take 4) : Nat) : Int)]] hE rfl zero67 rfl fpl67 (by simp [PartsOk, Value.cells, *]) rfl ?_; clear hE a; intro a hE
              replace hE := hE.cast 31 rfl (show _ = Value.agg ([[.int .u64 ((val ((bs.drop 8).take 8) : Nat) : Int)], bv ((bs.drop 16).take 32), bv ((bs.drop 48).take 32), bv ((bs.drop 80).take 32), [.int .i64 ((val ((bs.drop 112).take 4) : Nat) : Int)], [.int .i64 ((val ((bs.drop 116).take 4) : Nat) : Int)]] : List (List Value)).flatten.toArray from (by first | rfl | simp [setAll]))
              refine q_nil (q_nx ?_)
              refine o_fl rfl ?_
              refine q_nil (q_nx ?_)
              refine o_or rfl ?_ ?_
              · refine s_alloc [1, 32, 32, 32, 1, 1] hE hM zero67 rfl rfl ?_; clear hE a; intro a b4 w9 hE hM'
                clear hM; have hM := hM'; clear hM'
                refine q_nil (q_nx ?_)
                refine o_re ?_
                refine o_fl rfl ?_
                refine q_nil (q_nx ?_)
                refine o_fl rfl ?_
                refine q_nil (q_nx ?_)
                refine o_weak (fun b => b = b4) (fun _ _ => trivial) ?_
                refine o_or rfl ?_ ?_
                · refine s_storeSegs 0 6 (vss := [[.int .u64 ((val ((bs.drop 8).take 8) : Nat) : Int)], bv ((bs.drop 16).take 32), bv ((bs.drop 48).take 32), bv ((bs.drop 80).take 32), [.int .i64 ((val ((bs.drop 112).take 4) : Nat) : Int)], [.int .i64 ((val ((bs.drop 116).take 4) : Nat) : Int)]]) hE rfl rfl hM rfl sz67 (by have hl_s1 : ((bs.drop 16).take 32).length = 32 := (by first | (simp; done) | (simp [*]; done) | (simp; omega)); have hl_s2 : ((bs.drop 48).take 32).length = 32 := (by first | (simp; done) | (simp [*]; done) | (simp; omega)); have hl_s3 : ((bs.drop 80).take 32).length = 32 := (by first | (simp; done) | (simp [*]; done) | (simp; omega));  simp only [List.map_cons, List.map_nil, bv_length, List.length_cons, List.length_nil, List.take_succ_cons, List.take_zero, List.drop_zero, List.drop_succ_cons, hl_s1, hl_s2, hl_s3]) (by decide) rfl (one_fl ⟨one1 rfl, bv_one _, bv_one _, bv_one _, one1 rfl, one1 rfl, trivial⟩) rfl (by intro X h; cases h; rfl) ?_; intro w10 hM'; clear hM; have hM := hM'; clear hM'
                  simp only [List.take_zero, List.take_succ_cons, List.drop_zero, List.drop_succ_cons, List.take_nil, List.drop_nil, List.nil_append, List.append_nil, List.cons_append] at hM
                  refine q_nil (q_nx ?_)
                  refine o_cut (fun _ => True) ?_
                  refine o_re ?_
                  refine o_weak (fun _ => False) (fun _ _ => trivial) ?_
                  refine o_leaf rfl rfl ?_
                  refine q_nil (q_ph (q_nil ?_))
                  replace hE : Env a 48 [(0, _), (2, _), (3, _), (4, _), (9, _)] := hE.sel [0, 2, 3, 4, 9] rfl
                  refine hK4 _ _ ?_
                  refine wp_seq_k (fun K5 hK5 => ?_)
                  refine wp_plain [true, false, true, true, true, true, true] rfl rfl ?_
                  refine s_loadN hE rfl (hM.get 0 rfl) row67 rfl (by intro X h; cases h) rfl ?_; clear hE a; intro a hE
                  replace hE := hE.cast 33 rfl (show _ = Value.agg ([[.int .u64 ((val ((bs.drop 8).take 8) : Nat) : Int)], bv ((bs.drop 16).take 32), bv ((bs.drop 48).take 32), bv ((bs.drop 80).take 32), [.int .i64 ((val ((bs.drop 112).take 4) : Nat) : Int)], [.int .i64 ((val ((bs.drop 116).take 4) : Nat) : Int)]] : List (List Value)).flatten.toArray from (by first | rfl | simp))
                  refine s_call hE rfl Try.call27 (rputroot_c (val ((bs.drop 8).take 8)) ((bs.drop 16).take 32) ((bs.drop 48).take 32) ((bs.drop 80).take 32) (val ((bs.drop 112).take 4)) (val ((bs.drop 116).take 4)) _ (by first | (simp; done) | (simp [*]; done) | (simp; omega)) (by first | (simp; done) | (simp [*]; done) | (simp; omega)) (by first | (simp; done) | (simp [*]; done) | (simp; omega)) (by have hl_0rt : ((bs.drop 16).take 32).length = 32 := (by first | (simp; done) | (simp [*]; done) | (simp; omega)); have hl_0rh : ((bs.drop 48).take 32).length = 32 := (by first | (simp; done) | (simp [*]; done) | (simp; omega)); have hl_0rb : ((bs.drop 80).take 32).length = 32 := (by first | (simp; done) | (simp [*]; done) | (simp; omega)); first | omega | assumption | (simp; done) | (simp; omega) | decide) (by have hl_0rt : ((bs.drop 16).take 32).length = 32 := (by first | (simp; done) | (simp [*]; done) | (simp; omega)); have hl_0rh : ((bs.drop 48).take 32).length = 32 := (by first | (simp; done) | (simp [*]; done) | (simp; omega)); have hl_0rb : ((bs.drop 80).take 32).length = 32 := (by first | (simp; done) | (simp [*]; done) | (simp; omega)); first | omega | assumption | (simp; done) | (simp; omega) | decide) (by have hl_0rt : ((bs.drop 16).take 32).length = 32 := (by first | (simp; done) | (simp [*]; done) | (simp; omega)); have hl_0rh : ((bs.drop 48).take 32).length = 32 := (by first | (simp; done) | (simp [*]; done) | (simp; omega)); have hl_0rb : ((bs.drop 80).take 32).length = 32 := (by first | (simp; done) | (simp [*]; done) | (simp; omega)); first | omega | assumption | (simp; done) | (simp; omega) | decide)) rfl ?_
                  rintro e w11 ⟨v34_0, rfl, hN⟩
                  refine ⟨_, rfl, trivial, ?_⟩; clear hE a; intro a hE
                  replace hM : Mem _ _ w11 [_, _, _, _, _, _, _, _, _, _] := hM.call0 hN ⟨rfl, trivial⟩; clear hN
                  refine s_move hE rfl rfl ?_; clear hE a; intro a hE
                  refine s_extract hE rfl rfl rfl ?_; clear hE a; intro a hE
                  refine s_extract hE rfl rfl rfl ?_; clear hE a; intro a hE
                  refine s_assign hE rfl rfl ?_; clear hE a; intro a hE
                  refine s_assign hE rfl rfl ?_; clear hE a; intro a hE
                  refine q_nil ?_
                  replace hE : Env a 48 [(0, _), (2, _), (3, _), (4, _), (5, _), (6, _), (9, _)] := hE.sel [0, 2, 3, 4, 5, 6, 9] rfl
                  refine hK5 _ _ ?_
                  refine wp_seq_k (fun K6 hK6 => ?_)
                  refine wp_seq_k (fun K7 hK7 => ?_)
                  refine wp_plain [true, true, true, true, true, true, true, true, true] rfl rfl ?_
                  refine s_move hE rfl rfl ?_; clear hE a; intro a hE
                  refine s_bin hE rfl rfl bin_neq rfl ?_; clear hE a; intro a hE
                  replace hE := hE.cast 38 rfl (show _ = Value.bool false from (congrArg Value.bool (by decide)))
                  refine s_move hE rfl rfl ?_; clear hE a; intro a hE
                  refine g_yes hE rfl rfl ?_
                  refine s_move hE rfl rfl ?_; clear hE a; intro a hE
                  refine g_yes hE rfl rfl ?_
                  obtain ⟨cs41, hs41⟩ := own_rd (hM.get 0 rfl)
                  refine s_toStr hE rfl Try.underlying55 Try.underlying5 Try.underlying9 hs41 (by intro X h; cases h) rfl ?_; clear hE a; intro a hE
                  refine g_yes hE rfl rfl ?_
                  refine s_move hE rfl rfl ?_; clear hE a; intro a hE
                  refine g_yes hE rfl rfl ?_
                  refine s_toStr hE rfl Try.underlying55 Try.underlying5 Try.underlying9 (hM.get 9 rfl) (by intro X h; cases h) rfl ?_; clear hE a; intro a hE
                  refine g_yes hE rfl rfl ?_
                  refine s_bin hE rfl rfl bins_str.2 rfl ?_; clear hE a; intro a hE
                  refine s_pickf hE rfl rfl rfl ?_; clear hE a; intro a hE
                  refine q_nil ?_
                  replace hE : Env a 48 [(0, _), (2, _), (3, _), (4, _), (9, _), (45, _)] := hE.sel [0, 2, 3, 4, 9, 45] rfl
                  refine hK7 _ _ ?_
                  replace hE := hE.cast 45 rfl (show _ = Value.bool true from (congrArg Value.bool (by first | rfl | simp [hrb])))
                  refine wp_cond_true (hE.eval rfl) ?_
                  refine wp_seq_k (fun K8 hK8 => ?_)
                  refine wp_plain [true, false, true] rfl rfl ?_
                  refine s_buildS [] hE rfl zero67 rfl fpl67 (by simp [PartsOk, Value.cells, *]) rfl ?_; clear hE a; intro a hE
                  replace hE := hE.cast 46 rfl (show _ = Value.agg ([[.int .u64 0], bv (List.replicate 32 (0 : UInt8)), bv (List.replicate 32 (0 : UInt8)), bv (List.replicate 32 (0 : UInt8)), [.int .i64 0], [.int .i64 0]] : List (List Value)).flatten.toArray from (by first | rfl | simp [setAll]))
                  replace hM : Mem _ _ w11 [_, _, _, _, _, _, _, _, _, _] := hM.pick [8, 0, 1, 2, 3, 4, 5, 6, 7, 9] rfl
                  refine s_storeSegs 0 6 (vss := [[.int .u64 0], bv (List.replicate 32 (0 : UInt8)), bv (List.replicate 32 (0 : UInt8)), bv (List.replicate 32 (0 : UInt8)), [.int .i64 0], [.int .i64 0]]) hE rfl rfl hM rfl sz67 (by have hl_s1 : (List.replicate 32 (0 : UInt8)).length = 32 := (by first | (simp; done) | (simp [*]; done) | (simp; omega)); have hl_s2 : (List.replicate 32 (0 : UInt8)).length = 32 := (by first | (simp; done) | (simp [*]; done) | (simp; omega)); have hl_s3 : (List.replicate 32 (0 : UInt8)).length = 32 := (by first | (simp; done) | (simp [*]; done) | (simp; omega));  simp only [List.map_cons, List.map_nil, bv_length, List.length_cons, List.length_nil, List.take_succ_cons, List.take_zero, List.drop_zero, List.drop_succ_cons, hl_s1, hl_s2, hl_s3]) (by decide) rfl (one_fl ⟨one1 rfl, bv_one _, bv_one _, bv_one _, one1 rfl, one1 rfl, trivial⟩) rfl (by intro X h; cases h) ?_; intro w12 hM'; clear hM; have hM := hM'; clear hM'
                  simp only [List.take_zero, List.take_succ_cons, List.drop_zero, List.drop_succ_cons, List.take_nil, List.drop_nil, List.nil_append, List.append_nil, List.cons_append] at hM
                  refine s_assign hE rfl rfl ?_; clear hE a; intro a hE
                  refine q_nil ?_
                  replace hE : Env a 48 [(0, _), (2, _), (3, _), (4, _), (9, _), (45, _)] := hE.sel [0, 2, 3, 4, 9, 45] rfl
                  refine hK8 _ _ ?_
                  refine wp_ret ?_
                  refine q_then_r ?_
                  refine f_ret2 hE rfl (res_cellN rfl (hM.get 0 rfl) row67 rfl) rfl ?_
                  exact ⟨(by first | rfl | simp), hM.pick [] rfl⟩
                trivial
              trivial
            refine o_or rfl ?_ ?_
            · refine s_alloc [1, 32, 32, 32, 1, 1] hE hM zero67 rfl rfl ?_; clear hE a; intro a b4 w8 hE hM'
              clear hM; have hM := hM'; clear hM'
              refine q_nil (q_nx ?_)
              refine o_re ?_
              refine o_fl rfl ?_
              refine q_nil (q_nx ?_)
              refine o_fl rfl ?_
              refine q_nil (q_nx ?_)
              refine o_or rfl ?_ ?_
              · refine s_call hE rfl Try.call58 (rvalue_c _ ((bs.drop 116).take 4) _ _ (hM.get 1 rfl) (by have hl_0 : ((bs.drop 116).take 4).length = 4 := (by have hl_q : bs.length = 128 := hl; simp; try omega); first | omega | assumption | (simp; done) | (simp; omega) | decide)) rfl ?_
                rintro e w9 ⟨rfl, hN⟩
                refine ⟨_, rfl, hN.sta0 _, ?_⟩; clear hE a; intro a hE
                replace hM : Mem _ _ w9 [_, _, _, _, _, _, _, _, _] := hM.call0 hN trivial; clear hN
                refine q_nil (q_nx ?_)
                refine o_re ?_
                refine o_fl rfl ?_
                refine s_conv hE rfl (cnv_int Try.underlying24 Try.underlying3 (wrap_i64 (by omega) (by omega))) rfl ?_; clear hE a; intro a hE
                refine s_buildS [[.int .u64 ((val ((bs.drop 8).take 8) : Nat) : Int)], bv ((bs.drop 16).take 32), bv ((bs.drop 48).take 32), bv ((bs.drop 80).take 32), [.int .i64 ((val ((bs.drop 112).take 4) : Nat) : Int)], [.int .i64 ((val ((bs.drop 116).take 4) : Nat) : Int)]] hE rfl zero67 rfl fpl67 (by simp [PartsOk, Value.cells, *]) rfl ?_; clear hE a; intro a hE
                replace hE := hE.cast 31 rfl (show _ = Value.agg ([[.int .u64 ((val ((bs.drop 8).take 8) : Nat) : Int)], bv ((bs.drop 16).take 32), bv ((bs.drop 48).take 32), bv ((bs.drop 80).take 32), [.int .i64 ((val ((bs.drop 112).take 4) : Nat) : Int)], [.int .i64 ((val ((bs.drop 116).take 4) : Nat) : Int)]] : List (List Value)).flatten.toArray from (by first | rfl | simp [setAll]))
                refine q_nil (q_nx ?_)
                refine o_fl rfl ?_
                refine q_nil (q_nx ?_)
                refine o_weak (fun b => b = b4) (fun _ _ => trivial) ?_
                refine o_or rfl ?_ ?_
                · refine s_storeSegs 0 6 (vss := [[.int .u64 ((val ((bs.drop 8).take 8) : Nat) : Int)], bv ((bs.drop 16).take 32), bv ((bs.drop 48).take 32), bv ((bs.drop 80).take 32), [.int .i64 ((val ((bs.drop 112).take 4) : Nat) : Int)], [.int .i64 ((val ((bs.drop 116).take 4) : Nat) : Int)]]) hE rfl rfl hM rfl sz67 (by have hl_s1 : ((bs.drop 16).take 32).length = 32 := (by first | (simp; done) | (simp [*]; done) | (simp; omega)); have hl_s2 : ((bs.drop 48).take 32).length = 32 := (by first | (simp; done) | (simp [*]; done) | (simp; omega)); have hl_s3 : ((bs.drop 80).take 32).length = 32 := (by first | (simp; done) | (simp [*]; done) | (simp; omega));  simp only [List.map_cons, List.map_nil, bv_length, List.length_cons, List.length_nil, List.take_succ_cons, List.take_zero, List.drop_zero, List.drop_succ_cons, hl_s1, hl_s2, hl_s3]) (by decide) rfl (one_fl ⟨one1 rfl, bv_one _, bv_one _, bv_one _, one1 rfl, one1 rfl, trivial⟩) rfl (by intro X h; cases h; rfl) ?_; intro w10 hM'; clear hM; have hM := hM'; clear hM'
                  simp only [List.take_zero, List.take_succ_cons, List.drop_zero, List.drop_succ_cons, List.take_nil, List.drop_nil, List.nil_append, List.append_nil, List.cons_append] at hM
                  refine q_nil (q_nx ?_)
                  refine o_cut (fun _ => True) ?_
                  refine o_re ?_
                  refine o_weak (fun _ => False) (fun _ _ => trivial) ?_
                  refine o_leaf rfl rfl ?_
                  refine q_nil (q_ph (q_nil ?_))
                  replace hE : Env a 48 [(0, _), (2, _), (3, _), (4, _), (9, _)] := hE.sel [0, 2, 3, 4, 9] rfl
                  refine hK4 _ _ ?_
                  refine wp_seq_k (fun K5 hK5 => ?_)
                  refine wp_plain [true, false, true, true, true, true, true] rfl rfl ?_
                  refine s_loadN hE rfl (hM.get 0 rfl) row67 rfl (by intro X h; cases h) rfl ?_; clear hE a; intro a hE
                  replace hE := hE.cast 33 rfl (show _ = Value.agg ([[.int .u64 ((val ((bs.drop 8).take 8) : Nat) : Int)], bv ((bs.drop 16).take 32), bv ((bs.drop 48).take 32), bv ((bs.drop 80).take 32), [.int .i64 ((val ((bs.drop 112).take 4) : Nat) : Int)], [.int .i64 ((val ((bs.drop 116).take 4) : Nat) : Int)]] : List (List Value)).flatten.toArray from (by first | rfl | simp))
                  refine s_call hE rfl Try.call27 (rputroot_c (val ((bs.drop 8).take 8)) ((bs.drop 16).take 32) ((bs.drop 48).take 32) ((bs.drop 80).take 32) (val ((bs.drop 112).take 4)) (val ((bs.drop 116).take 4)) _ (by first | (simp; done) | (simp [*]; done) | (simp; omega)) (by first | (simp; done) | (simp [*]; done) | (simp; omega)) (by first | (simp; done) | (simp [*]; done) | (simp; omega)) (by have hl_0rt : ((bs.drop 16).take 32).length = 32 := (by first | (simp; done) | (simp [*]; done) | (simp; omega)); have hl_0rh : ((bs.drop 48).take 32).length = 32 := (by first | (simp; done) | (simp [*]; done) | (simp; omega)); have hl_0rb : ((bs.drop 80).take 32).length = 32 := (by first | (simp; done) | (simp [*]; done) | (simp; omega)); first | omega | assumption | (simp; done) | (simp; omega) | decide) (by have hl_0rt : ((bs.drop 16).take 32).length = 32 := (by first | (simp; done) | (simp [*]; done) | (simp; omega)); have hl_0rh : ((bs.drop 48).take 32).length = 32 := (by first | (simp; done) | (simp [*]; done) | (simp; omega)); have hl_0rb : ((bs.drop 80).take 32).length = 32 := (by first | (simp; done) | (simp [*]; done) | (simp; omega)); first | omega | assumption | (simp; done) | (simp; omega) | decide) (by have hl_0rt : ((bs.drop 16).take 32).length = 32 := (by first | (simp; done) | (simp [*]; done) | (simp; omega)); have hl_0rh : ((bs.drop 48).take 32).length = 32 := (by first | (simp; done) | (simp [*]; done) | (simp; omega)); have hl_0rb : ((bs.drop 80).take 32).length = 32 := (by first | (simp; done) | (simp [*]; done) | (simp; omega)); first | omega | assumption | (simp; done) | (simp; omega) | decide)) rfl ?_
                  rintro e w11 ⟨v34_0, rfl, hN⟩
                  refine ⟨_, rfl, trivial, ?_⟩; clear hE a; intro a hE
                  replace hM : Mem _ _ w11 [_, _, _, _, _, _, _, _, _, _] := hM.call0 hN ⟨rfl, trivial⟩; clear hN
                  refine s_move hE rfl rfl ?_; clear hE a; intro a hE
                  refine s_extract hE rfl rfl rfl ?_; clear hE a; intro a hE
                  refine s_extract hE rfl rfl rfl ?_; clear hE a; intro a hE
                  refine s_assign hE rfl rfl ?_; clear hE a; intro a hE
                  refine s_assign hE rfl rfl ?_; clear hE a; intro a hE
                  refine q_nil ?_
                  replace hE : Env a 48 [(0, _), (2, _), (3, _), (4, _), (5, _), (6, _), (9, _)] := hE.sel [0, 2, 3, 4, 5, 6, 9] rfl
                  refine hK5 _ _ ?_
                  refine wp_seq_k (fun K6 hK6 => ?_)
                  refine wp_seq_k (fun K7 hK7 => ?_)
                  refine wp_plain [true, true, true, true, true, true, true, true, true] rfl rfl ?_
                  refine s_move hE rfl rfl ?_; clear hE a; intro a hE
                  refine s_bin hE rfl rfl bin_neq rfl ?_; clear hE a; intro a hE
                  replace hE := hE.cast 38 rfl (show _ = Value.bool false from (congrArg Value.bool (by decide)))
                  refine s_move hE rfl rfl ?_; clear hE a; intro a hE
                  refine g_yes hE rfl rfl ?_
                  refine s_move hE rfl rfl ?_; clear hE a; intro a hE
                  refine g_yes hE rfl rfl ?_
                  obtain ⟨cs41, hs41⟩ := own_rd (hM.get 0 rfl)
                  refine s_toStr hE rfl Try.underlying55 Try.underlying5 Try.underlying9 hs41 (by intro X h; cases h) rfl ?_; clear hE a; intro a hE
                  refine g_yes hE rfl rfl ?_
                  refine s_move hE rfl rfl ?_; clear hE a; intro a hE
                  refine g_yes hE rfl rfl ?_
                  refine s_toStr hE rfl Try.underlying55 Try.underlying5 Try.underlying9 (hM.get 9 rfl) (by intro X h; cases h) rfl ?_; clear hE a; intro a hE
                  refine g_yes hE rfl rfl ?_
                  refine s_bin hE rfl rfl bins_str.2 rfl ?_; clear hE a; intro a hE
                  refine s_pickf hE rfl rfl rfl ?_; clear hE a; intro a hE
                  refine q_nil ?_
                  replace hE : Env a 48 [(0, _), (2, _), (3, _), (4, _), (9, _), (45, _)] := hE.sel [0, 2, 3, 4, 9, 45] rfl
                  refine hK7 _ _ ?_
                  replace hE := hE.cast 45 rfl (show _ = Value.bool true from (congrArg Value.bool (by first | rfl | simp [hrb])))
                  refine wp_cond_true (hE.eval rfl) ?_
                  refine wp_seq_k (fun K8 hK8 => ?_)
                  refine wp_plain [true, false, true] rfl rfl ?_
                  refine s_buildS [] hE rfl zero67 rfl fpl67 (by simp [PartsOk, Value.cells, *]) rfl ?_; clear hE a; intro a hE
                  replace hE := hE.cast 46 rfl (show _ = Value.agg ([[.int .u64 0], bv (List.replicate 32 (0 : UInt8)), bv (List.replicate 32 (0 : UInt8)), bv (List.replicate 32 (0 : UInt8)), [.int .i64 0], [.int .i64 0]] : List (List Value)).flatten.toArray from (by first | rfl | simp [setAll]))
                  replace hM : Mem _ _ w11 [_, _, _, _, _, _, _, _, _, _] := hM.pick [8, 0, 1, 2, 3, 4, 5, 6, 7, 9] rfl
                  refine s_storeSegs 0 6 (vss := [[.int .u64 0], bv (List.replicate 32 (0 : UInt8)), bv (List.replicate 32 (0 : UInt8)), bv (List.replicate 32 (0 : UInt8)), [.int .i64 0], [.int .i64 0]]) hE rfl rfl hM rfl sz67 (by have hl_s1 : (List.replicate 32 (0 : UInt8)).length = 32 := (by first | (simp; done) | (simp [*]; done) | (simp; omega)); have hl_s2 : (List.replicate 32 (0 : UInt8)).length = 32 := (by first | (simp; done) | (simp [*]; done) | (simp; omega)); have hl_s3 : (List.replicate 32 (0 : UInt8)).length = 32 := (by first | (simp; done) | (simp [*]; done) | (simp; omega));  simp only [List.map_cons, List.map_nil, bv_length, List.length_cons, List.length_nil, List.take_succ_cons, List.take_zero, List.drop_zero, List.drop_succ_cons, hl_s1, hl_s2, hl_s3]) (by decide) rfl (one_fl ⟨one1 rfl, bv_one _, bv_one _, bv_one _, one1 rfl, one1 rfl, trivial⟩) rfl (by intro X h; cases h) ?_; intro w12 hM'; clear hM; have hM := hM'; clear hM'
                  simp only [List.take_zero, List.take_succ_cons, List.drop_zero, List.drop_succ_cons, List.take_nil, List.drop_nil, List.nil_append, List.append_nil, List.cons_append] at hM
                  refine s_assign hE rfl rfl ?_; clear hE a; intro a hE
                  refine q_nil ?_
                  replace hE : Env a 48 [(0, _), (2, _), (3, _), (4, _), (9, _), (45, _)] := hE.sel [0, 2, 3, 4, 9, 45] rfl
                  refine hK8 _ _ ?_
                  refine wp_ret ?_
                  refine q_then_r ?_
                  refine f_ret2 hE rfl (res_cellN rfl (hM.get 0 rfl) row67 rfl) rfl ?_
                  exact ⟨(by first | rfl | simp), hM.pick [] rfl⟩
                trivial
              trivial
            trivial
          refine o_or rfl ?_ ?_
          · refine s_alloc [1, 32, 32, 32, 1, 1] hE hM zero67 rfl rfl ?_; clear hE a; intro a b4 w7 hE hM'
            clear hM; have hM := hM'; clear hM'
            refine q_nil (q_nx ?_)
            refine o_re ?_
            refine o_fl rfl ?_
            refine q_nil (q_nx ?_)
            refine o_fl rfl ?_
            refine q_nil (q_nx ?_)
            refine o_or rfl ?_ ?_
            · refine s_call hE rfl Try.call58 (rvalue_c _ ((bs.drop 112).take 4) _ _ (hM.get 2 rfl) (by have hl_0 : ((bs.drop 112).take 4).length = 4 := (by have hl_q : bs.length = 128 := hl; simp; try omega); first | omega | assumption | (simp; done) | (simp; omega) | decide)) rfl ?_
              rintro e w8 ⟨rfl, hN⟩
              refine ⟨_, rfl, hN.sta0 _, ?_⟩; clear hE a; intro a hE
              replace hM : Mem _ _ w8 [_, _, _, _, _, _, _, _, _] := hM.call0 hN trivial; clear hN
              refine q_nil (q_nx ?_)
              refine o_re ?_
              refine o_fl rfl ?_
              refine s_conv hE rfl (cnv_int Try.underlying24 Try.underlying3 (wrap_i64 (by omega) (by omega))) rfl ?_; clear hE a; intro a hE
              refine q_nil (q_nx ?_)
              refine o_fl rfl ?_
              refine q_nil (q_nx ?_)
              refine o_or rfl ?_ ?_
              · refine s_call hE rfl Try.call58 (rvalue_c _ ((bs.drop 116).take 4) _ _ (hM.get 1 rfl) (by have hl_0 : ((bs.drop 116).take 4).length = 4 := (by have hl_q : bs.length = 128 := hl; simp; try omega); first | omega | assumption | (simp; done) | (simp; omega) | decide)) rfl ?_
                rintro e w9 ⟨rfl, hN⟩
                refine ⟨_, rfl, hN.sta0 _, ?_⟩; clear hE a; intro a hE
                replace hM : Mem _ _ w9 [_, _, _, _, _, _, _, _, _] := hM.call0 hN trivial; clear hN
                refine q_nil (q_nx ?_)
                refine o_re ?_
                refine o_fl rfl ?_
                refine s_conv hE rfl (cnv_int Try.underlying24 Try.underlying3 (wrap_i64 (by omega) (by omega))) rfl ?_; clear hE a; intro a hE
                refine s_buildS [[.int .u64 ((val ((bs.drop 8).take 8) : Nat) : Int)], bv ((bs.drop 16).take 32), bv ((bs.drop 48).take 32), bv ((bs.drop 80).take 32), [.int .i64 ((val ((bs.drop 112).take 4) : Nat) : Int)], [.int .i64 ((val ((bs.drop 116).take 4) : Nat) : Int)]] hE rfl zero67 rfl fpl67 (by simp [PartsOk, Value.cells, *]) rfl ?_; clear hE a; intro a hE
                replace hE := hE.cast 31 rfl (show _ = Value.agg ([[.int .u64 ((val ((bs.drop 8).take 8) : Nat) : Int)], bv ((bs.drop 16).take 32), bv ((bs.drop 48).take 32), bv ((bs.drop 80).take 32), [.int .i64 ((val ((bs.drop 112).take 4) : Nat) : Int)], [.int .i64 ((val ((bs.drop 116).take 4) : Nat) : Int)]] : List (List Value)).flatten.toArray from (by first | rfl | simp [setAll]))
                refine q_nil (q_nx ?_)
                refine o_fl rfl ?_
                refine q_nil (q_nx ?_)
                refine o_weak (fun b => b = b4) (fun _ _ => trivial) ?_
                refine o_or rfl ?_ ?_
                · refine s_storeSegs 0 6 (vss := [[.int .u64 ((val ((bs.drop 8).take 8) : Nat) : Int)], bv ((bs.drop 16).take 32), bv ((bs.drop 48).take 32), bv ((bs.drop 80).take 32), [.int .i64 ((val ((bs.drop 112).take 4) : Nat) : Int)], [.int .i64 ((val ((bs.drop 116).take 4) : Nat) : Int)]]) hE rfl rfl hM rfl sz67 (by have hl_s1 : ((bs.drop 16).take 32).length = 32 := (by first | (simp; done) | (simp [*]; done) | (simp; omega)); have hl_s2 : ((bs.drop 48).take 32).length = 32 := (by first | (simp; done) | (simp [*]; done) | (simp; omega)); have hl_s3 : ((bs.drop 80).take 32).length = 32 := (by first | (simp; done) | (simp [*]; done) | (simp; omega));  simp only [List.map_cons, List.map_nil, bv_length, List.length_cons, List.length_nil, List.take_succ_cons, List.take_zero, List.drop_zero, List.drop_succ_cons, hl_s1, hl_s2, hl_s3]) (by decide) rfl (one_fl ⟨one1 rfl, bv_one _, bv_one _, bv_one _, one1 rfl, one1 rfl, trivial⟩) rfl (by intro X h; cases h; rfl) ?_; intro w10 hM'; clear hM; have hM := hM'; clear hM'
                  simp only [List.take_zero, List.take_succ_cons, List.drop_zero, List.drop_succ_cons, List.take_nil, List.drop_nil, List.nil_append, List.append_nil, List.cons_append] at hM
                  refine q_nil (q_nx ?_)
                  refine o_cut (fun _ => True) ?_
                  refine o_re ?_
                  refine o_weak (fun _ => False) (fun _ _ => trivial) ?_
                  refine o_leaf rfl rfl ?_
                  refine q_nil (q_ph (q_nil ?_))
                  replace hE : Env a 48 [(0, _), (2, _), (3, _), (4, _), (9, _)] := hE.sel [0, 2, 3, 4, 9] rfl
                  refine hK4 _ _ ?_
                  refine wp_seq_k (fun K5 hK5 => ?_)
                  refine wp_plain [true, false, true, true, true, true, true] rfl rfl ?_
                  refine s_loadN hE rfl (hM.get 0 rfl) row67 rfl (by intro X h; cases h) rfl ?_; clear hE a; intro a hE
                  replace hE := hE.cast 33 rfl (show _ = Value.agg ([[.int .u64 ((val ((bs.drop 8).take 8) : Nat) : Int)], bv ((bs.drop 16).take 32), bv ((bs.drop 48).take 32), bv ((bs.drop 80).take 32), [.int .i64 ((val ((bs.drop 112).take 4) : Nat) : Int)], [.int .i64 ((val ((bs.drop 116).take 4) : Nat) : Int)]] : List (List Value)).flatten.toArray from (by first | rfl | simp))
                  refine s_call hE rfl Try.call27 (rputroot_c (val ((bs.drop 8).take 8)) ((bs.drop 16).take 32) ((bs.drop 48).take 32) ((bs.drop 80).take 32) (val ((bs.drop 112).take 4)) (val ((bs.drop 116).take 4)) _ (by first | (simp; done) | (simp [*]; done) | (simp; omega)) (by first | (simp; done) | (simp [*]; done) | (simp; omega)) (by first | (simp; done) | (simp [*]; done) | (simp; omega)) (by have hl_0rt : ((bs.drop 16).take 32).length = 32 := (by first | (simp; done) | (simp [*]; done) | (simp; omega)); have hl_0rh : ((bs.drop 48).take 32).length = 32 := (by first | (simp; done) | (simp [*]; done) | (simp; omega)); have hl_0rb : ((bs.drop 80).take 32).length = 32 := (by first | (simp; done) | (simp [*]; done) | (simp; omega)); first | omega | assumption | (simp; done) | (simp; omega) | decide) (by have hl_0rt : ((bs.drop 16).take 32).length = 32 := (by first | (simp; done) | (simp [*]; done) | (simp; omega)); have hl_0rh : ((bs.drop 48).take 32).length = 32 := (by first | (simp; done) | (simp [*]; done) | (simp; omega)); have hl_0rb : ((bs.drop 80).take 32).length = 32 := (by first | (simp; done) | (simp [*]; done) | (simp; omega)); first | omega | assumption | (simp; done) | (simp; omega) | decide) (by have hl_0rt : ((bs.drop 16).take 32).length = 32 := (by first | (simp; done) | (simp [*]; done) | (simp; omega)); have hl_0rh : ((bs.drop 48).take 32).length = 32 := (by first | (simp; done) | (simp [*]; done) | (simp; omega)); have hl_0rb : ((bs.drop 80).take 32).length = 32 := (by first | (simp; done) | (simp [*]; done) | (simp; omega)); first | omega | assumption | (simp; done) | (simp; omega) | decide)) rfl ?_
                  rintro e w11 ⟨v34_0, rfl, hN⟩
                  refine ⟨_, rfl, trivial, ?_⟩; clear hE a; intro a hE
                  replace hM : Mem _ _ w11 [_, _, _, _, _, _, _, _, _, _] := hM.call0 hN ⟨rfl, trivial⟩; clear hN
                  refine s_move hE rfl rfl ?_; clear hE a; intro a hE
                  refine s_extract hE rfl rfl rfl ?_; clear hE a; intro a hE
                  refine s_extract hE rfl rfl rfl ?_; clear hE a; intro a hE
                  refine s_assign hE rfl rfl ?_; clear hE a; intro a hE
                  refine s_assign hE rfl rfl ?_; clear hE a; intro a hE
                  refine q_nil ?_
                  replace hE : Env a 48 [(0, _), (2, _), (3, _), (4, _), (5, _), (6, _), (9, _)] := hE.sel [0, 2, 3, 4, 5, 6, 9] rfl
                  refine hK5 _ _ ?_
                  refine wp_seq_k (fun K6 hK6 => ?_)
                  refine wp_seq_k (fun K7 hK7 => ?_)
                  refine wp_plain [true, true, true, true, true, true, true, true, true] rfl rfl ?_
                  refine s_move hE rfl rfl ?_; clear hE a; intro a hE
                  refine s_bin hE rfl rfl bin_neq rfl ?_; clear hE a; intro a hE
                  replace hE := hE.cast 38 rfl (show _ = Value.bool false from (congrArg Value.bool (by decide)))
                  refine s_move hE rfl rfl ?_; clear hE a; intro a hE
                  refine g_yes hE rfl rfl ?_
                  refine s_move hE rfl rfl ?_; clear hE a; intro a hE
                  refine g_yes hE rfl rfl ?_
                  obtain ⟨cs41, hs41⟩ := own_rd (hM.get 0 rfl)
                  refine s_toStr hE rfl Try.underlying55 Try.underlying5 Try.underlying9 hs41 (by intro X h; cases h) rfl ?_; clear hE a; intro a hE
                  refine g_yes hE rfl rfl ?_
                  refine s_move hE rfl rfl ?_; clear hE a; intro a hE
                  refine g_yes hE rfl rfl ?_
                  refine s_toStr hE rfl Try.underlying55 Try.underlying5 Try.underlying9 (hM.get 9 rfl) (by intro X h; cases h) rfl ?_; clear hE a; intro a hE
                  refine g_yes hE rfl rfl ?_
                  refine s_bin hE rfl rfl bins_str.2 rfl ?_; clear hE a; intro a hE
                  refine s_pickf hE rfl rfl rfl ?_; clear hE a; intro a hE
                  refine q_nil ?_
                  replace hE : Env a 48 [(0, _), (2, _), (3, _), (4, _), (9, _), (45, _)] := hE.sel [0, 2, 3, 4, 9, 45] rfl
                  refine hK7 _ _ ?_
                  replace hE := hE.cast 45 rfl (show _ = Value.bool true from (congrArg Value.bool (by first | rfl | simp [hrb])))
                  refine wp_cond_true (hE.eval rfl) ?_
                  refine wp_seq_k (fun K8 hK8 => ?_)
                  refine wp_plain [true, false, true] rfl rfl ?_
                  refine s_buildS [] hE rfl zero67 rfl fpl67 (by simp [PartsOk, Value.cells, *]) rfl ?_; clear hE a; intro a hE
                  replace hE := hE.cast 46 rfl (show _ = Value.agg ([[.int .u64 0], bv (List.replicate 32 (0 : UInt8)), bv (List.replicate 32 (0 : UInt8)), bv (List.replicate 32 (0 : UInt8)), [.int .i64 0], [.int .i64 0]] : List (List Value)).flatten.toArray from (by first | rfl | simp [setAll]))
                  replace hM : Mem _ _ w11 [_, _, _, _, _, _, _, _, _, _] := hM.pick [8, 0, 1, 2, 3, 4, 5, 6, 7, 9] rfl
                  refine s_storeSegs 0 6 (vss := [[.int .u64 0], bv (List.replicate 32 (0 : UInt8)), bv (List.replicate 32 (0 : UInt8)), bv (List.replicate 32 (0 : UInt8)), [.int .i64 0], [.int .i64 0]]) hE rfl rfl hM rfl sz67 (by have hl_s1 : (List.replicate 32 (0 : UInt8)).length = 32 := (by first | (simp; done) | (simp [*]; done) | (simp; omega)); have hl_s2 : (List.replicate 32 (0 : UInt8)).length = 32 := (by first | (simp; done) | (simp [*]; done) | (simp; omega)); have hl_s3 : (List.replicate 32 (0 : UInt8)).length = 32 := (by first | (simp; done) | (simp [*]; done) | (simp; omega));  simp only [List.map_cons, List.map_nil, bv_length, List.length_cons, List.length_nil, List.take_succ_cons, List.take_zero, List.drop_zero, List.drop_succ_cons, hl_s1, hl_s2, hl_s3]) (by decide) rfl (one_fl ⟨one1 rfl, bv_one _, bv_one _, bv_one _, one1 rfl, one1 rfl, trivial⟩) rfl (by intro X h; cases h) ?_; intro w12 hM'; clear hM; have hM := hM'; clear hM'
                  simp only [List.take_zero, List.take_succ_cons, List.drop_zero, List.drop_succ_cons, List.take_nil, List.drop_nil, List.nil_append, List.append_nil, List.cons_append] at hM
                  refine s_assign hE rfl rfl ?_; clear hE a; intro a hE
                  refine q_nil ?_
                  replace hE : Env a 48 [(0, _), (2, _), (3, _), (4, _), (9, _), (45, _)] := hE.sel [0, 2, 3, 4, 9, 45] rfl
                  refine hK8 _ _ ?_
                  refine wp_ret ?_
                  refine q_then_r ?_
                  refine f_ret2 hE rfl (res_cellN rfl (hM.get 0 rfl) row67 rfl) rfl ?_
                  exact ⟨(by first | rfl | simp), hM.pick [] rfl⟩
                trivial
              trivial
            trivial
          trivial
        refine o_or rfl ?_ ?_
        · refine s_alloc [1, 32, 32, 32, 1, 1] hE hM zero67 rfl rfl ?_; clear hE a; intro a b4 w6 hE hM'
          clear hM; have hM := hM'; clear hM'
          refine q_nil (q_nx ?_)
          refine o_re ?_
          refine o_fl rfl ?_
          refine q_nil (q_nx ?_)
          refine o_fl rfl ?_
          refine q_nil (q_nx ?_)
          refine o_or rfl ?_ ?_
          · refine s_call hE rfl Try.call59 (rtagof_c _ ((bs.drop 80).take 32) _ _ (hM.get 3 rfl) (by have hl_0 : ((bs.drop 80).take 32).length = 32 := (by have hl_q : bs.length = 128 := hl; simp; try omega); first | omega | assumption | (simp; done) | (simp; omega) | decide)) rfl ?_
            rintro e w7 ⟨rfl, hN⟩
            refine ⟨_, rfl, hN.sta0 _, ?_⟩; clear hE a; intro a hE
            replace hM : Mem _ _ w7 [_, _, _, _, _, _, _, _, _] := hM.call0 hN trivial; clear hN
            refine q_nil (q_nx ?_)
            refine o_re ?_
            refine o_fl rfl ?_
            refine q_nil (q_nx ?_)
            refine o_fl rfl ?_
            refine q_nil (q_nx ?_)
            refine o_or rfl ?_ ?_
            · refine s_call hE rfl Try.call58 (rvalue_c _ ((bs.drop 112).take 4) _ _ (hM.get 2 rfl) (by have hl_0 : ((bs.drop 112).take 4).length = 4 := (by have hl_q : bs.length = 128 := hl; simp; try omega); first | omega | assumption | (simp; done) | (simp; omega) | decide)) rfl ?_
              rintro e w8 ⟨rfl, hN⟩
              refine ⟨_, rfl, hN.sta0 _, ?_⟩; clear hE a; intro a hE
              replace hM : Mem _ _ w8 [_, _, _, _, _, _, _, _, _] := hM.call0 hN trivial; clear hN
              refine q_nil (q_nx ?_)
              refine o_re ?_
              refine o_fl rfl ?_
              refine s_conv hE rfl (cnv_int Try.underlying24 Try.underlying3 (wrap_i64 (by omega) (by omega))) rfl ?_; clear hE a; intro a hE
              refine q_nil (q_nx ?_)
              refine o_fl rfl ?_
              refine q_nil (q_nx ?_)
              refine o_or rfl ?_ ?_
              · refine s_call hE rfl Try.call58 (rvalue_c _ ((bs.drop 116).take 4) _ _ (hM.get 1 rfl) (by have hl_0 : ((bs.drop 116).take 4).length = 4 := (by have hl_q : bs.length = 128 := hl; simp; try omega); first | omega | assumption | (simp; done) | (simp; omega) | decide)) rfl ?_
                rintro e w9 ⟨rfl, hN⟩
                refine ⟨_, rfl, hN.sta0 _, ?_⟩; clear hE a; intro a hE
                replace hM : Mem _ _ w9 [_, _, _, _, _, _, _, _, _] := hM.call0 hN trivial; clear hN
                refine q_nil (q_nx ?_)
                refine o_re ?_
                refine o_fl rfl ?_
                refine s_conv hE rfl (cnv_int Try.underlying24 Try.underlying3 (wrap_i64 (by omega) (by omega))) rfl ?_; clear hE a; intro a hE
                refine s_buildS [[.int .u64 ((val ((bs.drop 8).take 8) : Nat) : Int)], bv ((bs.drop 16).take 32), bv ((bs.drop 48).take 32), bv ((bs.drop 80).take 32), [.int .i64 ((val ((bs.drop 112).take 4) : Nat) : Int)], [.int .i64 ((val ((bs.drop 116).take 4) : Nat) : Int)]] hE rfl zero67 rfl fpl67 (by simp [PartsOk, Value.cells, *]) rfl ?_; clear hE a; intro a hE
                replace hE := hE.cast 31 rfl (show _ = Value.agg ([[.int .u64 ((val ((bs.drop 8).take 8) : Nat) : Int)], bv ((bs.drop 16).take 32), bv ((bs.drop 48).take 32), bv ((bs.drop 80).take 32), [.int .i64 ((val ((bs.drop 112).take 4) : Nat) : Int)], [.int .i64 ((val ((bs.drop 116).take 4) : Nat) : Int)]] : List (List Value)).flatten.toArray from (by first | rfl | simp [setAll]))
                refine q_nil (q_nx ?_)
                refine o_fl rfl ?_
                refine q_nil (q_nx ?_)
                refine o_weak (fun b => b = b4) (fun _ _ => trivial) ?_
                refine o_or rfl ?_ ?_
                · refine s_storeSegs 0 6 (vss := [[.int .u64 ((val ((bs.drop 8).take 8) : Nat) : Int)], bv ((bs.drop 16).take 32), bv ((bs.drop 48).take 32), bv ((bs.drop 80).take 32), [.int .i64 ((val ((bs.drop 112).take 4) : Nat) : Int)], [.int .i64 ((val ((bs.drop 116).take 4) : Nat) : Int)]]) hE rfl rfl hM rfl sz67 (by have hl_s1 : ((bs.drop 16).take 32).length = 32 := (by first | (simp; done) | (simp [*]; done) | (simp; omega)); have hl_s2 : ((bs.drop 48).take 32).length = 32 := (by first | (simp; done) | (simp [*]; done) | (simp; omega)); have hl_s3 : ((bs.drop 80).take 32).length = 32 := (by first | (simp; done) | (simp [*]; done) | (simp; omega));  simp only [List.map_cons, List.map_nil, bv_length, List.length_cons, List.length_nil, List.take_succ_cons, List.take_zero, List.drop_zero, List.drop_succ_cons, hl_s1, hl_s2, hl_s3]) (by decide) rfl (one_fl ⟨one1 rfl, bv_one _, bv_one _, bv_one _, one1 rfl, one1 rfl, trivial⟩) rfl (by intro X h; cases h; rfl) ?_; intro w10 hM'; clear hM; have hM := hM'; clear hM'
                  simp only [List.take_zero, List.take_succ_cons, List.drop_zero, List.drop_succ_cons, List.take_nil, List.drop_nil, List.nil_append, List.append_nil, List.cons_append] at hM
                  refine q_nil (q_nx ?_)
                  refine o_cut (fun _ => True) ?_
                  refine o_re ?_
                  refine o_weak (fun _ => False) (fun _ _ => trivial) ?_
                  refine o_leaf rfl rfl ?_
                  refine q_nil (q_ph (q_nil ?_))
                  replace hE : Env a 48 [(0, _), (2, _), (3, _), (4, _), (9, _)] := hE.sel [0, 2, 3, 4, 9] rfl
                  refine hK4 _ _ ?_
                  refine wp_seq_k (fun K5 hK5 => ?_)
                  refine wp_plain [true, false, true, true, true, true, true] rfl rfl ?_
                  refine s_loadN hE rfl (hM.get 0 rfl) row67 rfl (by intro X h; cases h) rfl ?_; clear hE a; intro a hE
                  replace hE := hE.cast 33 rfl (show _ = Value.agg ([[.int .u64 ((val ((bs.drop 8).take 8) : Nat) : Int)], bv ((bs.drop 16).take 32), bv ((bs.drop 48).take 32), bv ((bs.drop 80).take 32), [.int .i64 ((val ((bs.drop 112).take 4) : Nat) : Int)], [.int .i64 ((val ((bs.drop 116).take 4) : Nat) : Int)]] : List (List Value)).flatten.toArray from (by first | rfl | simp))
                  refine s_call hE rfl Try.call27 (rputroot_c (val ((bs.drop 8).take 8)) ((bs.drop 16).take 32) ((bs.drop 48).take 32) ((bs.drop 80).take 32) (val ((bs.drop 112).take 4)) (val ((bs.drop 116).take 4)) _ (by first | (simp; done) | (simp [*]; done) | (simp; omega)) (by first | (simp; done) | (simp [*]; done) | (simp; omega)) (by first | (simp; done) | (simp [*]; done) | (simp; omega)) (by have hl_0rt : ((bs.drop 16).take 32).length = 32 := (by first | (simp; done) | (simp [*]; done) | (simp; omega)); have hl_0rh : ((bs.drop 48).take 32).length = 32 := (by first | (simp; done) | (simp [*]; done) | (simp; omega)); have hl_0rb : ((bs.drop 80).take 32).length = 32 := (by first | (simp; done) | (simp [*]; done) | (simp; omega)); first | omega | assumption | (simp; done) | (simp; omega) | decide) (by have hl_0rt : ((bs.drop 16).take 32).length = 32 := (by first | (simp; done) | (simp [*]; done) | (simp; omega)); have hl_0rh : ((bs.drop 48).take 32).length = 32 := (by first | (simp; done) | (simp [*]; done) | (simp; omega)); have hl_0rb : ((bs.drop 80).take 32).length = 32 := (by first | (simp; done) | (simp [*]; done) | (simp; omega)); first | omega | assumption | (simp; done) | (simp; omega) | decide) (by have hl_0rt : ((bs.drop 16).take 32).length = 32 := (by first | (simp; done) | (simp [*]; done) | (simp; omega)); have hl_0rh : ((bs.drop 48).take 32).length = 32 := (by first | (simp; done) | (simp [*]; done) | (simp; omega)); have hl_0rb : ((bs.drop 80).take 32).length = 32 := (by first | (simp; done) | (simp [*]; done) | (simp; omega)); first | omega | assumption | (simp; done) | (simp; omega) | decide)) rfl ?_
                  rintro e w11 ⟨v34_0, rfl, hN⟩
                  refine ⟨_, rfl, trivial, ?_⟩; clear hE a; intro a hE
                  replace hM : Mem _ _ w11 [_, _, _, _, _, _, _, _, _, _] := hM.call0 hN ⟨rfl, trivial⟩; clear hN
                  refine s_move hE rfl rfl ?_; clear hE a; intro a hE
                  refine s_extract hE rfl rfl rfl ?_; clear hE a; intro a hE
                  refine s_extract hE rfl rfl rfl ?_; clear hE a; intro a hE
                  refine s_assign hE rfl rfl ?_; clear hE a; intro a hE
                  refine s_assign hE rfl rfl ?_; clear hE a; intro a hE
                  refine q_nil ?_
                  replace hE : Env a 48 [(0, _), (2, _), (3, _), (4, _), (5, _), (6, _), (9, _)] := hE.sel [0, 2, 3, 4, 5, 6, 9] rfl
                  refine hK5 _ _ ?_
                  refine wp_seq_k (fun K6 hK6 => ?_)
                  refine wp_seq_k (fun K7 hK7 => ?_)
                  refine wp_plain [true, true, true, true, true, true, true, true, true] rfl rfl ?_
                  refine s_move hE rfl rfl ?_; clear hE a; intro a hE
                  refine s_bin hE rfl rfl bin_neq rfl ?_; clear hE a; intro a hE
                  replace hE := hE.cast 38 rfl (show _ = Value.bool false from (congrArg Value.bool (by decide)))
                  refine s_move hE rfl rfl ?_; clear hE a; intro a hE
                  refine g_yes hE rfl rfl ?_
                  refine s_move hE rfl rfl ?_; clear hE a; intro a hE
                  refine g_yes hE rfl rfl ?_
                  obtain ⟨cs41, hs41⟩ := own_rd (hM.get 0 rfl)
                  refine s_toStr hE rfl Try.underlying55 Try.underlying5 Try.underlying9 hs41 (by intro X h; cases h) rfl ?_; clear hE a; intro a hE
                  refine g_yes hE rfl rfl ?_
                  refine s_move hE rfl rfl ?_; clear hE a; intro a hE
                  refine g_yes hE rfl rfl ?_
                  refine s_toStr hE rfl Try.underlying55 Try.underlying5 Try.underlying9 (hM.get 9 rfl) (by intro X h; cases h) rfl ?_; clear hE a; intro a hE
                  refine g_yes hE rfl rfl ?_
                  refine s_bin hE rfl rfl bins_str.2 rfl ?_; clear hE a; intro a hE
                  refine s_pickf hE rfl rfl rfl ?_; clear hE a; intro a hE
                  refine q_nil ?_
                  replace hE : Env a 48 [(0, _), (2, _), (3, _), (4, _), (9, _), (45, _)] := hE.sel [0, 2, 3, 4, 9, 45] rfl
                  refine hK7 _ _ ?_
                  replace hE := hE.cast 45 rfl (show _ = Value.bool true from (congrArg Value.bool (by first | rfl | simp [hrb])))
                  refine wp_cond_true (hE.eval rfl) ?_
                  refine wp_seq_k (fun K8 hK8 => ?_)
                  refine wp_plain [true, false, true] rfl rfl ?_
                  refine s_buildS [] hE rfl zero67 rfl fpl67 (by simp [PartsOk, Value.cells, *]) rfl ?_; clear hE a; intro a hE
                  replace hE := hE.cast 46 rfl (show _ = Value.agg ([[.int .u64 0], bv (List.replicate 32 (0 : UInt8)), bv (List.replicate 32 (0 : UInt8)), bv (List.replicate 32 (0 : UInt8)), [.int .i64 0], [.int .i64 0]] : List (List Value)).flatten.toArray from (by first | rfl | simp [setAll]))
                  replace hM : Mem _ _ w11 [_, _, _, _, _, _, _, _, _, _] := hM.pick [8, 0, 1, 2, 3, 4, 5, 6, 7, 9] rfl
                  refine s_storeSegs 0 6 (vss := [[.int .u64 0], bv (List.replicate 32 (0 : UInt8)), bv (List.replicate 32 (0 : UInt8)), bv (List.replicate 32 (0 : UInt8)), [.int .i64 0], [.int .i64 0]]) hE rfl rfl hM rfl sz67 (by have hl_s1 : (List.replicate 32 (0 : UInt8)).length = 32 := (by first | (simp; done) | (simp [*]; done) | (simp; omega)); have hl_s2 : (List.replicate 32 (0 : UInt8)).length = 32 := (by first | (simp; done) | (simp [*]; done) | (simp; omega)); have hl_s3 : (List.replicate 32 (0 : UInt8)).length = 32 := (by first | (simp; done) | (simp [*]; done) | (simp; omega));  simp only [List.map_cons, List.map_nil, bv_length, List.length_cons, List.length_nil, List.take_succ_cons, List.take_zero, List.drop_zero, List.drop_succ_cons, hl_s1, hl_s2, hl_s3]) (by decide) rfl (one_fl ⟨one1 rfl, bv_one _, bv_one _, bv_one _, one1 rfl, one1 rfl, trivial⟩) rfl (by intro X h; cases h) ?_; intro w12 hM'; clear hM; have hM := hM'; clear hM'
                  simp only [List.take_zero, List.take_succ_cons, List.drop_zero, List.drop_succ_cons, List.take_nil, List.drop_nil, List.nil_append, List.append_nil, List.cons_append] at hM
                  refine s_assign hE rfl rfl ?_; clear hE a; intro a hE
                  refine q_nil ?_
                  replace hE : Env a 48 [(0, _), (2, _), (3, _), (4, _), (9, _), (45, _)] := hE.sel [0, 2, 3, 4, 9, 45] rfl
                  refine hK8 _ _ ?_
                  refine wp_ret ?_
                  refine q_then_r ?_
                  refine f_ret2 hE rfl (res_cellN rfl (hM.get 0 rfl) row67 rfl) rfl ?_
                  exact ⟨(by first | rfl | simp), hM.pick [] rfl⟩
                trivial
              trivial
            trivial
          trivial
        trivial
      refine o_or rfl ?_ ?_
      · refine s_alloc [1, 32, 32, 32, 1, 1] hE hM zero67 rfl rfl ?_; clear hE a; intro a b4 w5 hE hM'
        clear hM; have hM := hM'; clear hM'
        refine q_nil (q_nx ?_)
        refine o_re ?_
        refine o_fl rfl ?_
        refine q_nil (q_nx ?_)
        refine o_fl rfl ?_
        refine q_nil (q_nx ?_)
        refine o_or rfl ?_ ?_
        · refine s_call hE rfl Try.call59 (rtagof_c _ ((bs.drop 48).take 32) _ _ (hM.get 4 rfl) (by have hl_0 : ((bs.drop 48).take 32).length = 32 := (by have hl_q : bs.length = 128 := hl; simp; try omega); first | omega | assumption | (simp; done) | (simp; omega) | decide)) rfl ?_
          rintro e w6 ⟨rfl, hN⟩
          refine ⟨_, rfl, hN.sta0 _, ?_⟩; clear hE a; intro a hE
          replace hM : Mem _ _ w6 [_, _, _, _, _, _, _, _, _] := hM.call0 hN trivial; clear hN
          refine q_nil (q_nx ?_)
          refine o_re ?_
          refine o_fl rfl ?_
          refine q_nil (q_nx ?_)
          refine o_fl rfl ?_
          refine q_nil (q_nx ?_)
          refine o_or rfl ?_ ?_
          · refine s_call hE rfl Try.call59 (rtagof_c _ ((bs.drop 80).take 32) _ _ (hM.get 3 rfl) (by have hl_0 : ((bs.drop 80).take 32).length = 32 := (by have hl_q : bs.length = 128 := hl; simp; try omega); first | omega | assumption | (simp; done) | (simp; omega) | decide)) rfl ?_
            rintro e w7 ⟨rfl, hN⟩
            refine ⟨_, rfl, hN.sta0 _, ?_⟩; clear hE a; intro a hE
            replace hM : Mem _ _ w7 [_, _, _, _, _, _, _, _, _] := hM.call0 hN trivial; clear hN
            refine q_nil (q_nx ?_)
            refine o_re ?_
            refine o_fl rfl ?_
            refine q_nil (q_nx ?_)
            refine o_fl rfl ?_
            refine q_nil (q_nx ?_)
            refine o_or rfl ?_ ?_
            · refine s_call hE rfl Try.call58 (rvalue_c _ ((bs.drop 112).take 4) _ _ (hM.get 2 rfl) (by have hl_0 : ((bs.drop 112).take 4).length = 4 := (by have hl_q : bs.length = 128 := hl; simp; try omega); first | omega | assumption | (simp; done) | (simp; omega) | decide)) rfl ?_
              rintro e w8 ⟨rfl, hN⟩
              refine ⟨_, rfl, hN.sta0 _, ?_⟩; clear hE a; intro a hE
              replace hM : Mem _ _ w8 [_, _, _, _, _, _, _, _, _] := hM.call0 hN trivial; clear hN
              refine q_nil (q_nx ?_)
              refine o_re ?_
              refine o_fl rfl ?_
              refine s_conv hE rfl (cnv_int Try.underlying24 Try.underlying3 (wrap_i64 (by omega) (by omega))) rfl ?_; clear hE a; intro a hE
              refine q_nil (q_nx ?_)
              refine o_fl rfl ?_
              refine q_nil (q_nx ?_)
              refine o_or rfl ?_ ?_
              · refine s_call hE rfl Try.call58 (rvalue_c _ ((bs.drop 116).take 4) _ _ (hM.get 1 rfl) (by have hl_0 : ((bs.drop 116).take 4).length = 4 := (by have hl_q : bs.length = 128 := hl; simp; try omega); first | omega | assumption | (simp; done) | (simp; omega) | decide)) rfl ?_
                rintro e w9 ⟨rfl, hN⟩
                refine ⟨_, rfl, hN.sta0 _, ?_⟩; clear hE a; intro a hE
                replace hM : Mem _ _ w9 [_, _, _, _, _, _, _, _, _] := hM.call0 hN trivial; clear hN
                refine q_nil (q_nx ?_)
                refine o_re ?_
                refine o_fl rfl ?_
                refine s_conv hE rfl (cnv_int Try.underlying24 Try.underlying3 (wrap_i64 (by omega) (by omega))) rfl ?_; clear hE a; intro a hE
                refine s_buildS [[.int .u64 ((val ((bs.drop 8).take 8) : Nat) : Int)], bv ((bs.drop 16).take 32), bv ((bs.drop 48).take 32), bv ((bs.drop 80).take 32), [.int .i64 ((val ((bs.drop 112).take 4) : Nat) : Int)], [.int .i64 ((val ((bs.drop 116).take 4) : Nat) : Int)]] hE rfl zero67 rfl fpl67 (by simp [PartsOk, Value.cells, *]) rfl ?_; clear hE a; intro a hE
                replace hE := hE.cast 31 rfl (show _ = Value.agg ([[.int .u64 ((val ((bs.drop 8).take 8) : Nat) : Int)], bv ((bs.drop 16).take 32), bv ((bs.drop 48).take 32), bv ((bs.drop 80).take 32), [.int .i64 ((val ((bs.drop 112).take 4) : Nat) : Int)], [.int .i64 ((val ((bs.drop 116).take 4) : Nat) : Int)]] : List (List Value)).flatten.toArray from (by first | rfl | simp [setAll]))
                refine q_nil (q_nx ?_)
                refine o_fl rfl ?_
                refine q_nil (q_nx ?_)
                refine o_weak (fun b => b = b4) (fun _ _ => trivial) ?_
                refine o_or rfl ?_ ?_
                · refine s_storeSegs 0 6 (vss := [[.int .u64 ((val ((bs.drop 8).take 8) : Nat) : Int)], bv ((bs.drop 16).take 32), bv ((bs.drop 48).take 32), bv ((bs.drop 80).take 32), [.int .i64 ((val ((bs.drop 112).take 4) : Nat) : Int)], [.int .i64 ((val ((bs.drop 116).take 4) : Nat) : Int)]]) hE rfl rfl hM rfl sz67 (by have hl_s1 : ((bs.drop 16).take 32).length = 32 := (by first | (simp; done) | (simp [*]; done) | (simp; omega)); have hl_s2 : ((bs.drop 48).take 32).length = 32 := (by first | (simp; done) | (simp [*]; done) | (simp; omega)); have hl_s3 : ((bs.drop 80).take 32).length = 32 := (by first | (simp; done) | (simp [*]; done) | (simp; omega));  simp only [List.map_cons, List.map_nil, bv_length, List.length_cons, List.length_nil, List.take_succ_cons, List.take_zero, List.drop_zero, List.drop_succ_cons, hl_s1, hl_s2, hl_s3]) (by decide) rfl (one_fl ⟨one1 rfl, bv_one _, bv_one _, bv_one _, one1 rfl, one1 rfl, trivial⟩) rfl (by intro X h; cases h; rfl) ?_; intro w10 hM'; clear hM; have hM := hM'; clear hM'
                  simp only [List.take_zero, List.take_succ_cons, List.drop_zero, List.drop_succ_cons, List.take_nil, List.drop_nil, List.nil_append, List.append_nil, List.cons_append] at hM
                  refine q_nil (q_nx ?_)
                  refine o_cut (fun _ => True) ?_
                  refine o_re ?_
                  refine o_weak (fun _ => False) (fun _ _ => trivial) ?_
                  refine o_leaf rfl rfl ?_
                  refine q_nil (q_ph (q_nil ?_))
                  replace hE : Env a 48 [(0, _), (2, _), (3, _), (4, _), (9, _)] := hE.sel [0, 2, 3, 4, 9] rfl
                  refine hK4 _ _ ?_
                  refine wp_seq_k (fun K5 hK5 => ?_)
                  refine wp_plain [true, false, true, true, true, true, true] rfl rfl ?_
                  refine s_loadN hE rfl (hM.get 0 rfl) row67 rfl (by intro X h; cases h) rfl ?_; clear hE a; intro a hE
                  replace hE := hE.cast 33 rfl (show _ = Value.agg ([[.int .u64 ((val ((bs.drop 8).take 8) : Nat) : Int)], bv ((bs.drop 16).take 32), bv ((bs.drop 48).take 32), bv ((bs.drop 80).take 32), [.int .i64 ((val ((bs.drop 112).take 4) : Nat) : Int)], [.int .i64 ((val ((bs.drop 116).take 4) : Nat) : Int)]] : List (List Value)).flatten.toArray from (by first | rfl | simp))
                  refine s_call hE rfl Try.call27 (rputroot_c (val ((bs.drop 8).take 8)) ((bs.drop 16).take 32) ((bs.drop 48).take 32) ((bs.drop 80).take 32) (val ((bs.drop 112).take 4)) (val ((bs.drop 116).take 4)) _ (by first | (simp; done) | (simp [*]; done) | (simp; omega)) (by first | (simp; done) | (simp [*]; done) | (simp; omega)) (by first | (simp; done) | (simp [*]; done) | (simp; omega)) (by have hl_0rt : ((bs.drop 16).take 32).length = 32 := (by first | (simp; done) | (simp [*]; done) | (simp; omega)); have hl_0rh : ((bs.drop 48).take 32).length = 32 := (by first | (simp; done) | (simp [*]; done) | (simp; omega)); have hl_0rb : ((bs.drop 80).take 32).length = 32 := (by first | (simp; done) | (simp [*]; done) | (simp; omega)); first | omega | assumption | (simp; done) | (simp; omega) | decide) (by have hl_0rt : ((bs.drop 16).take 32).length = 32 := (by first | (simp; done) | (simp [*]; done) | (simp; omega)); have hl_0rh : ((bs.drop 48).take 32).length = 32 := (by first | (simp; done) | (simp [*]; done) | (simp; omega)); have hl_0rb : ((bs.drop 80).take 32).length = 32 := (by first | (simp; done) | (simp [*]; done) | (simp; omega)); first | omega | assumption | (simp; done) | (simp; omega) | decide) (by have hl_0rt : ((bs.drop 16).take 32).length = 32 := (by first | (simp; done) | (simp [*]; done) | (simp; omega)); have hl_0rh : ((bs.drop 48).take 32).length = 32 := (by first | (simp; done) | (simp [*]; done) | (simp; omega)); have hl_0rb : ((bs.drop 80).take 32).length = 32 := (by first | (simp; done) | (simp [*]; done) | (simp; omega)); first | omega | assumption | (simp; done) | (simp; omega) | decide)) rfl ?_
                  rintro e w11 ⟨v34_0, rfl, hN⟩
                  refine ⟨_, rfl, trivial, ?_⟩; clear hE a; intro a hE
                  replace hM : Mem _ _ w11 [_, _, _, _, _, _, _, _, _, _] := hM.call0 hN ⟨rfl, trivial⟩; clear hN
                  refine s_move hE rfl rfl ?_; clear hE a; intro a hE
                  refine s_extract hE rfl rfl rfl ?_; clear hE a; intro a hE
                  refine s_extract hE rfl rfl rfl ?_; clear hE a; intro a hE
                  refine s_assign hE rfl rfl ?_; clear hE a; intro a hE
                  refine s_assign hE rfl rfl ?_; clear hE a; intro a hE
                  refine q_nil ?_
                  replace hE : Env a 48 [(0, _), (2, _), (3, _), (4, _), (5, _), (6, _), (9, _)] := hE.sel [0, 2, 3, 4, 5, 6, 9] rfl
                  refine hK5 _ _ ?_
                  refine wp_seq_k (fun K6 hK6 => ?_)
                  refine wp_seq_k (fun K7 hK7 => ?_)
                  refine wp_plain [true, true, true, true, true, true, true, true, true] rfl rfl ?_
                  refine s_move hE rfl rfl ?_; clear hE a; intro a hE
                  refine s_bin hE rfl rfl bin_neq rfl ?_; clear hE a; intro a hE
                  replace hE := hE.cast 38 rfl (show _ = Value.bool false from (congrArg Value.bool (by decide)))
                  refine s_move hE rfl rfl ?_; clear hE a; intro a hE
                  refine g_yes hE rfl rfl ?_
                  refine s_move hE rfl rfl ?_; clear hE a; intro a hE
                  refine g_yes hE rfl rfl ?_
                  obtain ⟨cs41, hs41⟩ := own_rd (hM.get 0 rfl)
                  refine s_toStr hE rfl Try.underlying55 Try.underlying5 Try.underlying9 hs41 (by intro X h; cases h) rfl ?_; clear hE a; intro a hE
                  refine g_yes hE rfl rfl ?_
                  refine s_move hE rfl rfl ?_; clear hE a; intro a hE
                  refine g_yes hE rfl rfl ?_
                  refine s_toStr hE rfl Try.underlying55 Try.underlying5 Try.underlying9 (hM.get 9 rfl) (by intro X h; cases h) rfl ?_; clear hE a; intro a hE
                  refine g_yes hE rfl rfl ?_
                  refine s_bin hE rfl rfl bins_str.2 rfl ?_; clear hE a; intro a hE
                  refine s_pickf hE rfl rfl rfl ?_; clear hE a; intro a hE
                  refine q_nil ?_
                  replace hE : Env a 48 [(0, _), (2, _), (3, _), (4, _), (9, _), (45, _)] := hE.sel [0, 2, 3, 4, 9, 45] rfl
                  refine hK7 _ _ ?_
                  replace hE := hE.cast 45 rfl (show _ = Value.bool true from (congrArg Value.bool (by first | rfl | simp [hrb])))
                  refine wp_cond_true (hE.eval rfl) ?_
                  refine wp_seq_k (fun K8 hK8 => ?_)
                  refine wp_plain [true, false, true] rfl rfl ?_
                  refine s_buildS [] hE rfl zero67 rfl fpl67 (by simp [PartsOk, Value.cells, *]) rfl ?_; clear hE a; intro a hE
                  replace hE := hE.cast 46 rfl (show _ = Value.agg ([[.int .u64 0], bv (List.replicate 32 (0 : UInt8)), bv (List.replicate 32 (0 : UInt8)), bv (List.replicate 32 (0 : UInt8)), [.int .i64 0], [.int .i64 0]] : List (List Value)).flatten.toArray from (by first | rfl | simp [setAll]))
                  replace hM : Mem _ _ w11 [_, _, _, _, _, _, _, _, _, _] := hM.pick [8, 0, 1, 2, 3, 4, 5, 6, 7, 9] rfl
                  refine s_storeSegs 0 6 (vss := [[.int .u64 0], bv (List.replicate 32 (0 : UInt8)), bv (List.replicate 32 (0 : UInt8)), bv (List.replicate 32 (0 : UInt8)), [.int .i64 0], [.int .i64 0]]) hE rfl rfl hM rfl sz67 (by have hl_s1 : (List.replicate 32 (0 : UInt8)).length = 32 := (by first | (simp; done) | (simp [*]; done) | (simp; omega)); have hl_s2 : (List.replicate 32 (0 : UInt8)).length = 32 := (by first | (simp; done) | (simp [*]; done) | (simp; omega)); have hl_s3 : (List.replicate 32 (0 : UInt8)).length = 32 := (by first | (simp; done) | (simp [*]; done) | (simp; omega));  simp only [List.map_cons, List.map_nil, bv_length, List.length_cons, List.length_nil, List.take_succ_cons, List.take_zero, List.drop_zero, List.drop_succ_cons, hl_s1, hl_s2, hl_s3]) (by decide) rfl (one_fl ⟨one1 rfl, bv_one _, bv_one _, bv_one _, one1 rfl, one1 rfl, trivial⟩) rfl (by intro X h; cases h) ?_; intro w12 hM'; clear hM; have hM := hM'; clear hM'
                  simp only [List.take_zero, List.take_succ_cons, List.drop_zero, List.drop_succ_cons, List.take_nil, List.drop_nil, List.nil_append, List.append_nil, List.cons_append] at hM
                  refine s_assign hE rfl rfl ?_; clear hE a; intro a hE
                  refine q_nil ?_
                  replace hE : Env a 48 [(0, _), (2, _), (3, _), (4, _), (9, _), (45, _)] := hE.sel [0, 2, 3, 4, 9, 45] rfl
                  refine hK8 _ _ ?_
                  refine wp_ret ?_
                  refine q_then_r ?_
                  refine f_ret2 hE rfl (res_cellN rfl (hM.get 0 rfl) row67 rfl) rfl ?_
                  exact ⟨(by first | rfl | simp), hM.pick [] rfl⟩
                trivial
              trivial
            trivial
          trivial
        trivial
      trivial
    refine o_or rfl ?_ ?_
    · refine s_alloc [1, 32, 32, 32, 1, 1] hE hM zero67 rfl rfl ?_; clear hE a; intro a b4 w4 hE hM'
      clear hM; have hM := hM'; clear hM'
      refine q_nil (q_nx ?_)
      refine o_re ?_
      refine o_fl rfl ?_
      refine q_nil (q_nx ?_)
      refine o_fl rfl ?_
      refine q_nil (q_nx ?_)
      refine o_or rfl ?_ ?_
      · refine s_call hE rfl Try.call59 (rtagof_c _ ((bs.drop 16).take 32) _ _ (hM.get 5 rfl) (by have hl_0 : ((bs.drop 16).take 32).length = 32 := (by have hl_q : bs.length = 128 := hl; simp; try omega); first | omega | assumption | (simp; done) | (simp; omega) | decide)) rfl ?_
        rintro e w5 ⟨rfl, hN⟩
        refine ⟨_, rfl, hN.sta0 _, ?_⟩; clear hE a; intro a hE
        replace hM : Mem _ _ w5 [_, _, _, _, _, _, _, _, _] := hM.call0 hN trivial; clear hN
        refine q_nil (q_nx ?_)
        refine o_re ?_
        refine o_fl rfl ?_
        refine q_nil (q_nx ?_)
        refine o_fl rfl ?_
        refine q_nil (q_nx ?_)
        refine o_or rfl ?_ ?_
        · refine s_call hE rfl Try.call59 (rtagof_c _ ((bs.drop 48).take 32) _ _ (hM.get 4 rfl) (by have hl_0 : ((bs.drop 48).take 32).length = 32 := (by have hl_q : bs.length = 128 := hl; simp; try omega); first | omega | assumption | (simp; done) | (simp; omega) | decide)) rfl ?_
          rintro e w6 ⟨rfl, hN⟩
          refine ⟨_, rfl, hN.sta0 _, ?_⟩; clear hE a; intro a hE
          replace hM : Mem _ _ w6 [_, _, _, _, _, _, _, _, _] := hM.call0 hN trivial; clear hN
          refine q_nil (q_nx ?_)
          refine o_re ?_
          refine o_fl rfl ?_
          refine q_nil (q_nx ?_)
          refine o_fl rfl ?_
          refine q_nil (q_nx ?_)
          refine o_or rfl ?_ ?_
          · refine s_call hE rfl Try.call59 (rtagof_c _ ((bs.drop 80).take 32) _ _ (hM.get 3 rfl) (by have hl_0 : ((bs.drop 80).take 32).length = 32 := (by have hl_q : bs.length = 128 := hl; simp; try omega); first | omega | assumption | (simp; done) | (simp; omega) | decide)) rfl ?_
            rintro e w7 ⟨rfl, hN⟩
            refine ⟨_, rfl, hN.sta0 _, ?_⟩; clear hE a; intro a hE
            replace hM : Mem _ _ w7 [_, _, _, _, _, _, _, _, _] := hM.call0 hN trivial; clear hN
            refine q_nil (q_nx ?_)
            refine o_re ?_
            refine o_fl rfl ?_
            refine q_nil (q_nx ?_)
            refine o_fl rfl ?_
            refine q_nil (q_nx ?_)
            refine o_or rfl ?_ ?_
            · refine s_call hE rfl Try.call58 (rvalue_c _ ((bs.drop 112).take 4) _ _ (hM.get 2 rfl) (by have hl_0 : ((bs.drop 112).take 4).length = 4 := (by have hl_q : bs.length = 128 := hl; simp; try omega); first | omega | assumption | (simp; done) | (simp; omega) | decide)) rfl ?_
              rintro e w8 ⟨rfl, hN⟩
              refine ⟨_, rfl, hN.sta0 _, ?_⟩; clear hE a; intro a hE
              replace hM : Mem _ _ w8 [_, _, _, _, _, _, _, _, _] := hM.call0 hN trivial; clear hN
              refine q_nil (q_nx ?_)
              refine o_re ?_
              refine o_fl rfl ?_
              refine s_conv hE rfl (cnv_int Try.underlying24 Try.underlying3 (wrap_i64 (by omega) (by omega))) rfl ?_; clear hE a; intro a hE
              refine q_nil (q_nx ?_)
              refine o_fl rfl ?_
              refine q_nil (q_nx ?_)
              refine o_or rfl ?_ ?_
              · refine s_call hE rfl Try.call58 (rvalue_c _ ((bs.drop 116).take 4) _ _ (hM.get 1 rfl) (by have hl_0 : ((bs.drop 116).take 4).length = 4 := (by have hl_q : bs.length = 128 := hl; simp; try omega); first | omega | assumption | (simp; done) | (simp; omega) | decide)) rfl ?_
                rintro e w9 ⟨rfl, hN⟩
                refine ⟨_, rfl, hN.sta0 _, ?_⟩; clear hE a; intro a hE
                replace hM : Mem _ _ w9 [_, _, _, _, _, _, _, _, _] := hM.call0 hN trivial; clear hN
                refine q_nil (q_nx ?_)
                refine o_re ?_
                refine o_fl rfl ?_
                refine s_conv hE rfl (cnv_int Try.underlying24 Try.underlying3 (wrap_i64 (by omega) (by omega))) rfl ?_; clear hE a; intro a hE
                refine s_buildS [[.int .u64 ((val ((bs.drop 8).take 8) : Nat) : Int)], bv ((bs.drop 16).take 32), bv ((bs.drop 48).take 32), bv ((bs.drop 80).take 32), [.int .i64 ((val ((bs.drop 112).take 4) : Nat) : Int)], [.int .i64 ((val ((bs.drop 116).take 4) : Nat) : Int)]] hE rfl zero67 rfl fpl67 (by simp [PartsOk, Value.cells, *]) rfl ?_; clear hE a; intro a hE
                replace hE := hE.cast 31 rfl (show _ = Value.agg ([[.int .u64 ((val ((bs.drop 8).take 8) : Nat) : Int)], bv ((bs.drop 16).take 32), bv ((bs.drop 48).take 32), bv ((bs.drop 80).take 32), [.int .i64 ((val ((bs.drop 112).take 4) : Nat) : Int)], [.int .i64 ((val ((bs.drop 116).take 4) : Nat) : Int)]] : List (List Value)).flatten.toArray from (by first | rfl | simp [setAll]))
                refine q_nil (q_nx ?_)
                refine o_fl rfl ?_
                refine q_nil (q_nx ?_)
                refine o_weak (fun b => b = b4) (fun _ _ => trivial) ?_
                refine o_or rfl ?_ ?_
                · refine s_storeSegs 0 6 (vss := [[.int .u64 ((val ((bs.drop 8).take 8) : Nat) : Int)], bv ((bs.drop 16).take 32), bv ((bs.drop 48).take 32), bv ((bs.drop 80).take 32), [.int .i64 ((val ((bs.drop 112).take 4) : Nat) : Int)], [.int .i64 ((val ((bs.drop 116).take 4) : Nat) : Int)]]) hE rfl rfl hM rfl sz67 (by have hl_s1 : ((bs.drop 16).take 32).length = 32 := (by first | (simp; done) | (simp [*]; done) | (simp; omega)); have hl_s2 : ((bs.drop 48).take 32).length = 32 := (by first | (simp; done) | (simp [*]; done) | (simp; omega)); have hl_s3 : ((bs.drop 80).take 32).length = 32 := (by first | (simp; done) | (simp [*]; done) | (simp; omega));  simp only [List.map_cons, List.map_nil, bv_length, List.length_cons, List.length_nil, List.take_succ_cons, List.take_zero, List.drop_zero, List.drop_succ_cons, hl_s1, hl_s2, hl_s3]) (by decide) rfl (one_fl ⟨one1 rfl, bv_one _, bv_one _, bv_one _, one1 rfl, one1 rfl, trivial⟩) rfl (by intro X h; cases h; rfl) ?_; intro w10 hM'; clear hM; have hM := hM'; clear hM'
                  simp only [List.take_zero, List.take_succ_cons, List.drop_zero, List.drop_succ_cons, List.take_nil, List.drop_nil, List.nil_append, List.append_nil, List.cons_append] at hM
                  refine q_nil (q_nx ?_)
                  refine o_cut (fun _ => True) ?_
                  refine o_re ?_
                  refine o_weak (fun _ => False) (fun _ _ => trivial) ?_
                  refine o_leaf rfl rfl ?_
                  refine q_nil (q_ph (q_nil ?_))
                  replace hE : Env a 48 [(0, _), (2, _), (3, _), (4, _), (9, _)] := hE.sel [0, 2, 3, 4, 9] rfl
                  refine hK4 _ _ ?_
                  refine wp_seq_k (fun K5 hK5 => ?_)
                  refine wp_plain [true, false, true, true, true, true, true] rfl rfl ?_
                  refine s_loadN hE rfl (hM.get 0 rfl) row67 rfl (by intro X h; cases h) rfl ?_; clear hE a; intro a hE
                  replace hE := hE.cast 33 rfl (show _ = Value.agg ([[.int .u64 ((val ((bs.drop 8).take 8) : Nat) : Int)], bv ((bs.drop 16).take 32), bv ((bs.drop 48).take 32), bv ((bs.drop 80).take 32), [.int .i64 ((val ((bs.drop 112).take 4) : Nat) : Int)], [.int .i64 ((val ((bs.drop 116).take 4) : Nat) : Int)]] : List (List Value)).flatten.toArray from (by first | rfl | simp))
                  refine s_call hE rfl Try.call27 (rputroot_c (val ((bs.drop 8).take 8)) ((bs.drop 16).take 32) ((bs.drop 48).take 32) ((bs.drop 80).take 32) (val ((bs.drop 112).take 4)) (val ((bs.drop 116).take 4)) _ (by first | (simp; done) | (simp [*]; done) | (simp; omega)) (by first | (simp; done) | (simp [*]; done) | (simp; omega)) (by first | (simp; done) | (simp [*]; done) | (simp; omega)) (by have hl_0rt : ((bs.drop 16).take 32).length = 32 := (by first | (simp; done) | (simp [*]; done) | (simp; omega)); have hl_0rh : ((bs.drop 48).take 32).length = 32 := (by first | (simp; done) | (simp [*]; done) | (simp; omega)); have hl_0rb : ((bs.drop 80).take 32).length = 32 := (by first | (simp; done) | (simp [*]; done) | (simp; omega)); first | omega | assumption | (simp; done) | (simp; omega) | decide) (by have hl_0rt : ((bs.drop 16).take 32).length = 32 := (by first | (simp; done) | (simp [*]; done) | (simp; omega)); have hl_0rh : ((bs.drop 48).take 32).length = 32 := (by first | (simp; done) | (simp [*]; done) | (simp; omega)); have hl_0rb : ((bs.drop 80).take 32).length = 32 := (by first | (simp; done) | (simp [*]; done) | (simp; omega)); first | omega | assumption | (simp; done) | (simp; omega) | decide) (by have hl_0rt : ((bs.drop 16).take 32).length = 32 := (by first | (simp; done) | (simp [*]; done) | (simp; omega)); have hl_0rh : ((bs.drop 48).take 32).length = 32 := (by first | (simp; done) | (simp [*]; done) | (simp; omega)); have hl_0rb : ((bs.drop 80).take 32).length = 32 := (by first | (simp; done) | (simp [*]; done) | (simp; omega)); first | omega | assumption | (simp; done) | (simp; omega) | decide)) rfl ?_
                  rintro e w11 ⟨v34_0, rfl, hN⟩
                  refine ⟨_, rfl, trivial, ?_⟩; clear hE a; intro a hE
                  replace hM : Mem _ _ w11 [_, _, _, _, _, _, _, _, _, _] := hM.call0 hN ⟨rfl, trivial⟩; clear hN
                  refine s_move hE rfl rfl ?_; clear hE a; intro a hE
                  refine s_extract hE rfl rfl rfl ?_; clear hE a; intro a hE
                  refine s_extract hE rfl rfl rfl ?_; clear hE a; intro a hE
                  refine s_assign hE rfl rfl ?_; clear hE a; intro a hE
                  refine s_assign hE rfl rfl ?_; clear hE a; intro a hE
                  refine q_nil ?_
                  replace hE : Env a 48 [(0, _), (2, _), (3, _), (4, _), (5, _), (6, _), (9, _)] := hE.sel [0, 2, 3, 4, 5, 6, 9] rfl
                  refine hK5 _ _ ?_
                  refine wp_seq_k (fun K6 hK6 => ?_)
                  refine wp_seq_k (fun K7 hK7 => ?_)
                  refine wp_plain [true, true, true, true, true, true, true, true, true] rfl rfl ?_
                  refine s_move hE rfl rfl ?_; clear hE a; intro a hE
                  refine s_bin hE rfl rfl bin_neq rfl ?_; clear hE a; intro a hE
                  replace hE := hE.cast 38 rfl (show _ = Value.bool false from (congrArg Value.bool (by decide)))
                  refine s_move hE rfl rfl ?_; clear hE a; intro a hE
                  refine g_yes hE rfl rfl ?_
                  refine s_move hE rfl rfl ?_; clear hE a; intro a hE
                  refine g_yes hE rfl rfl ?_
                  obtain ⟨cs41, hs41⟩ := own_rd (hM.get 0 rfl)
                  refine s_toStr hE rfl Try.underlying55 Try.underlying5 Try.underlying9 hs41 (by intro X h; cases h) rfl ?_; clear hE a; intro a hE
                  refine g_yes hE rfl rfl ?_
                  refine s_move hE rfl rfl ?_; clear hE a; intro a hE
                  refine g_yes hE rfl rfl ?_
                  refine s_toStr hE rfl Try.underlying55 Try.underlying5 Try.underlying9 (hM.get 9 rfl) (by intro X h; cases h) rfl ?_; clear hE a; intro a hE
                  refine g_yes hE rfl rfl ?_
                  refine s_bin hE rfl rfl bins_str.2 rfl ?_; clear hE a; intro a hE
                  refine s_pickf hE rfl rfl rfl ?_; clear hE a; intro a hE
                  refine q_nil ?_
                  replace hE : Env a 48 [(0, _), (2, _), (3, _), (4, _), (9, _), (45, _)] := hE.sel [0, 2, 3, 4, 9, 45] rfl
                  refine hK7 _ _ ?_
                  replace hE := hE.cast 45 rfl (show _ = Value.bool true from (congrArg Value.bool (by first | rfl | simp [hrb])))
                  refine wp_cond_true (hE.eval rfl) ?_
                  refine wp_seq_k (fun K8 hK8 => ?_)
                  refine wp_plain [true, false, true] rfl rfl ?_
                  refine s_buildS [] hE rfl zero67 rfl fpl67 (by simp [PartsOk, Value.cells, *]) rfl ?_; clear hE a; intro a hE
                  replace hE := hE.cast 46 rfl (show _ = Value.agg ([[.int .u64 0], bv (List.replicate 32 (0 : UInt8)), bv (List.replicate 32 (0 : UInt8)), bv (List.replicate 32 (0 : UInt8)), [.int .i64 0], [.int .i64 0]] : List (List Value)).flatten.toArray from (by first | rfl | simp [setAll]))
                  replace hM : Mem _ _ w11 [_, _, _, _, _, _, _, _, _, _] := hM.pick [8, 0, 1, 2, 3, 4, 5, 6, 7, 9] rfl
                  refine s_storeSegs 0 6 (vss := [[.int .u64 0], bv (List.replicate 32 (0 : UInt8)), bv (List.replicate 32 (0 : UInt8)), bv (List.replicate 32 (0 : UInt8)), [.int .i64 0], [.int .i64 0]]) hE rfl rfl hM rfl sz67 (by have hl_s1 : (List.replicate 32 (0 : UInt8)).length = 32 := (by first | (simp; done) | (simp [*]; done) | (simp; omega)); have hl_s2 : (List.replicate 32 (0 : UInt8)).length = 32 := (by first | (simp; done) | (simp [*]; done) | (simp; omega)); have hl_s3 : (List.replicate 32 (0 : UInt8)).length = 32 := (by first | (simp; done) | (simp [*]; done) | (simp; omega));  simp only [List.map_cons, List.map_nil, bv_length, List.length_cons, List.length_nil, List.take_succ_cons, List.take_zero, List.drop_zero, List.drop_succ_cons, hl_s1, hl_s2, hl_s3]) (by decide) rfl (one_fl ⟨one1 rfl, bv_one _, bv_one _, bv_one _, one1 rfl, one1 rfl, trivial⟩) rfl (by intro X h; cases h) ?_; intro w12 hM'; clear hM; have hM := hM'; clear hM'
                  simp only [List.take_zero, List.take_succ_cons, List.drop_zero, List.drop_succ_cons, List.take_nil, List.drop_nil, List.nil_append, List.append_nil, List.cons_append] at hM
                  refine s_assign hE rfl rfl ?_; clear hE a; intro a hE
                  refine q_nil ?_
                  replace hE : Env a 48 [(0, _), (2, _), (3, _), (4, _), (9, _), (45, _)] := hE.sel [0, 2, 3, 4, 9, 45] rfl
                  refine hK8 _ _ ?_
                  refine wp_ret ?_
                  refine q_then_r ?_
                  refine f_ret2 hE rfl (res_cellN rfl (hM.get 0 rfl) row67 rfl) rfl ?_
                  exact ⟨(by first | rfl | simp), hM.pick [] rfl⟩
                trivial
              trivial
            trivial
          trivial
        trivial
      trivial
    trivial
  refine o_or rfl ?_ ?_
  · refine s_alloc [1, 32, 32, 32, 1, 1] hE hM zero67 rfl rfl ?_; clear hE a; intro a b4 w3 hE hM'
    clear hM; have hM := hM'; clear hM'
    refine q_nil (q_nx ?_)
    refine o_re ?_
    refine o_fl rfl ?_
    refine q_nil (q_nx ?_)
    refine o_fl rfl ?_
    refine q_nil (q_nx ?_)
    refine o_or rfl ?_ ?_
    · refine s_call hE rfl Try.call58 (rvalue_c _ ((bs.drop 8).take 8) _ _ (hM.get 6 rfl) (by have hl_0 : ((bs.drop 8).take 8).length = 8 := (by have hl_q : bs.length = 128 := hl; simp; try omega); first | omega | assumption | (simp; done) | (simp; omega) | decide)) rfl ?_
      rintro e w4 ⟨rfl, hN⟩
      refine ⟨_, rfl, hN.sta0 _, ?_⟩; clear hE a; intro a hE
      replace hM : Mem _ _ w4 [_, _, _, _, _, _, _, _, _] := hM.call0 hN trivial; clear hN
      refine q_nil (q_nx ?_)
      refine o_re ?_
      refine o_fl rfl ?_
      refine q_nil (q_nx ?_)
      refine o_fl rfl ?_
      refine q_nil (q_nx ?_)
      refine o_or rfl ?_ ?_
      · refine s_call hE rfl Try.call59 (rtagof_c _ ((bs.drop 16).take 32) _ _ (hM.get 5 rfl) (by have hl_0 : ((bs.drop 16).take 32).length = 32 := (by have hl_q : bs.length = 128 := hl; simp; try omega); first | omega | assumption | (simp; done) | (simp; omega) | decide)) rfl ?_
        rintro e w5 ⟨rfl, hN⟩
        refine ⟨_, rfl, hN.sta0 _, ?_⟩; clear hE a; intro a hE
        replace hM : Mem _ _ w5 [_, _, _, _, _, _, _, _, _] := hM.call0 hN trivial; clear hN
        refine q_nil (q_nx ?_)
        refine o_re ?_
        refine o_fl rfl ?_
        refine q_nil (q_nx ?_)
        refine o_fl rfl ?_
        refine q_nil (q_nx ?_)
        refine o_or rfl ?_ ?_
        · refine s_call hE rfl Try.call59 (rtagof_c _ ((bs.drop 48).take 32) _ _ (hM.get 4 rfl) (by have hl_0 : ((bs.drop 48).take 32).length = 32 := (by have hl_q : bs.length = 128 := hl; simp; try omega); first | omega | assumption | (simp; done) | (simp; omega) | decide)) rfl ?_
          rintro e w6 ⟨rfl, hN⟩
          refine ⟨_, rfl, hN.sta0 _, ?_⟩; clear hE a; intro a hE
          replace hM : Mem _ _ w6 [_, _, _, _, _, _, _, _, _] := hM.call0 hN trivial; clear hN
          refine q_nil (q_nx ?_)
          refine o_re ?_
          refine o_fl rfl ?_
          refine q_nil (q_nx ?_)
          refine o_fl rfl ?_
          refine q_nil (q_nx ?_)
          refine o_or rfl ?_ ?_
          · refine s_call hE rfl Try.call59 (rtagof_c _ ((bs.drop 80).take 32) _ _ (hM.get 3 rfl) (by have hl_0 : ((bs.drop 80).take 32).length = 32 := (by have hl_q : bs.length = 128 := hl; simp; try omega); first | omega | assumption | (simp; done) | (simp; omega) | decide)) rfl ?_
            rintro e w7 ⟨rfl, hN⟩
            refine ⟨_, rfl, hN.sta0 _, ?_⟩; clear hE a; intro a hE
            replace hM : Mem _ _ w7 [_, _, _, _, _, _, _, _, _] := hM.call0 hN trivial; clear hN
            refine q_nil (q_nx ?_)
            refine o_re ?_
            refine o_fl rfl ?_
            refine q_nil (q_nx ?_)
            refine o_fl rfl ?_
            refine q_nil (q_nx ?_)
            refine o_or rfl ?_ ?_
            · refine s_call hE rfl Try.call58 (rvalue_c _ ((bs.drop 112).take 4) _ _ (hM.get 2 rfl) (by have hl_0 : ((bs.drop 112).take 4).length = 4 := (by have hl_q : bs.length = 128 := hl; simp; try omega); first | omega | assumption | (simp; done) | (simp; omega) | decide)) rfl ?_
              rintro e w8 ⟨rfl, hN⟩
              refine ⟨_, rfl, hN.sta0 _, ?_⟩; clear hE a; intro a hE
              replace hM : Mem _ _ w8 [_, _, _, _, _, _, _, _, _] := hM.call0 hN trivial; clear hN
              refine q_nil (q_nx ?_)
              refine o_re ?_
              refine o_fl rfl ?_
              refine s_conv hE rfl (cnv_int Try.underlying24 Try.underlying3 (wrap_i64 (by omega) (by omega))) rfl ?_; clear hE a; intro a hE
              refine q_nil (q_nx ?_)
              refine o_fl rfl ?_
              refine q_nil (q_nx ?_)
              refine o_or rfl ?_ ?_
              · refine s_call hE rfl Try.call58 (rvalue_c _ ((bs.drop 116).take 4) _ _ (hM.get 1 rfl) (by have hl_0 : ((bs.drop 116).take 4).length = 4 := (by have hl_q : bs.length = 128 := hl; simp; try omega); first | omega | assumption | (simp; done) | (simp; omega) | decide)) rfl ?_
                rintro e w9 ⟨rfl, hN⟩
                refine ⟨_, rfl, hN.sta0 _, ?_⟩; clear hE a; intro a hE
                replace hM : Mem _ _ w9 [_, _, _, _, _, _, _, _, _] := hM.call0 hN trivial; clear hN
                refine q_nil (q_nx ?_)
                refine o_re ?_
                refine o_fl rfl ?_
                refine s_conv hE rfl (cnv_int Try.underlying24 Try.underlying3 (wrap_i64 (by omega) (by omega))) rfl ?_; clear hE a; intro a hE
                refine s_buildS [[.int .u64 ((val ((bs.drop 8).take 8) : Nat) : Int)], bv ((bs.drop 16).take 32), bv ((bs.drop 48).take 32), bv ((bs.drop 80).take 32), [.int .i64 ((val ((bs.drop 112).take 4) : Nat) : Int)], [.int .i64 ((val ((bs.drop 116).take 4) : Nat) : Int)]] hE rfl zero67 rfl fpl67 (by simp [PartsOk, Value.cells, *]) rfl ?_; clear hE a; intro a hE
                replace hE := hE.cast 31 rfl (show _ = Value.agg ([[.int .u64 ((val ((bs.drop 8).take 8) : Nat) : Int)], bv ((bs.drop 16).take 32), bv ((bs.drop 48).take 32), bv ((bs.drop 80).take 32), [.int .i64 ((val ((bs.drop 112).take 4) : Nat) : Int)], [.int .i64 ((val ((bs.drop 116).take 4) : Nat) : Int)]] : List (List Value)).flatten.toArray from (by first | rfl | simp [setAll]))
                refine q_nil (q_nx ?_)
                refine o_fl rfl ?_
                refine q_nil (q_nx ?_)
                refine o_weak (fun b => b = b4) (fun _ _ => trivial) ?_
                refine o_or rfl ?_ ?_
                · refine s_storeSegs 0 6 (vss := [[.int .u64 ((val ((bs.drop 8).take 8) : Nat) : Int)], bv ((bs.drop 16).take 32), bv ((bs.drop 48).take 32), bv ((bs.drop 80).take 32), [.int .i64 ((val ((bs.drop 112).take 4) : Nat) : Int)], [.int .i64 ((val ((bs.drop 116).take 4) : Nat) : Int)]]) hE rfl rfl hM rfl sz67 (by have hl_s1 : ((bs.drop 16).take 32).length = 32 := (by first | (simp; done) | (simp [*]; done) | (simp; omega)); have hl_s2 : ((bs.drop 48).take 32).length = 32 := (by first | (simp; done) | (simp [*]; done) | (simp; omega)); have hl_s3 : ((bs.drop 80).take 32).length = 32 := (by first | (simp; done) | (simp [*]; done) | (simp; omega));  simp only [List.map_cons, List.map_nil, bv_length, List.length_cons, List.length_nil, List.take_succ_cons, List.take_zero, List.drop_zero, List.drop_succ_cons, hl_s1, hl_s2, hl_s3]) (by decide) rfl (one_fl ⟨one1 rfl, bv_one _, bv_one _, bv_one _, one1 rfl, one1 rfl, trivial⟩) rfl (by intro X h; cases h; rfl) ?_; intro w10 hM'; clear hM; have hM := hM'; clear hM'
                  simp only [List.take_zero, List.take_succ_cons, List.drop_zero, List.drop_succ_cons, List.take_nil, List.drop_nil, List.nil_append, List.append_nil, List.cons_append] at hM
                  refine q_nil (q_nx ?_)
                  refine o_cut (fun _ => True) ?_
                  refine o_re ?_
                  refine o_weak (fun _ => False) (fun _ _ => trivial) ?_
                  refine o_leaf rfl rfl ?_
                  refine q_nil (q_ph (q_nil ?_))
                  replace hE : Env a 48 [(0, _), (2, _), (3, _), (4, _), (9, _)] := hE.sel [0, 2, 3, 4, 9] rfl
                  refine hK4 _ _ ?_
                  refine wp_seq_k (fun K5 hK5 => ?_)
                  refine wp_plain [true, false, true, true, true, true, true] rfl rfl ?_
                  refine s_loadN hE rfl (hM.get 0 rfl) row67 rfl (by intro X h; cases h) rfl ?_; clear hE a; intro a hE
                  replace hE := hE.cast 33 rfl (show _ = Value.agg ([[.int .u64 ((val ((bs.drop 8).take 8) : Nat) : Int)], bv ((bs.drop 16).take 32), bv ((bs.drop 48).take 32), bv ((bs.drop 80).take 32), [.int .i64 ((val ((bs.drop 112).take 4) : Nat) : Int)], [.int .i64 ((val ((bs.drop 116).take 4) : Nat) : Int)]] : List (List Value)).flatten.toArray from (by first | rfl | simp))
                  refine s_call hE rfl Try.call27 (rputroot_c (val ((bs.drop 8).take 8)) ((bs.drop 16).take 32) ((bs.drop 48).take 32) ((bs.drop 80).take 32) (val ((bs.drop 112).take 4)) (val ((bs.drop 116).take 4)) _ (by first | (simp; done) | (simp [*]; done) | (simp; omega)) (by first | (simp; done) | (simp [*]; done) | (simp; omega)) (by first | (simp; done) | (simp [*]; done) | (simp; omega)) (by have hl_0rt : ((bs.drop 16).take 32).length = 32 := (by first | (simp; done) | (simp [*]; done) | (simp; omega)); have hl_0rh : ((bs.drop 48).take 32).length = 32 := (by first | (simp; done) | (simp [*]; done) | (simp; omega)); have hl_0rb : ((bs.drop 80).take 32).length = 32 := (by first | (simp; done) | (simp [*]; done) | (simp; omega)); first | omega | assumption | (simp; done) | (simp; omega) | decide) (by have hl_0rt : ((bs.drop 16).take 32).length = 32 := (by first | (simp; done) | (simp [*]; done) | (simp; omega)); have hl_0rh : ((bs.drop 48).take 32).length = 32 := (by first | (simp; done) | (simp [*]; done) | (simp; omega)); have hl_0rb : ((bs.drop 80).take 32).length = 32 := (by first | (simp; done) | (simp [*]; done) | (simp; omega)); first | omega | assumption | (simp; done) | (simp; omega) | decide) (by have hl_0rt : ((bs.drop 16).take 32).length = 32 := (by first | (simp; done) | (simp [*]; done) | (simp; omega)); have hl_0rh : ((bs.drop 48).take 32).length = 32 := (by first | (simp; done) | (simp [*]; done) | (simp; omega)); have hl_0rb : ((bs.drop 80).take 32).length = 32 := (by first | (simp; done) | (simp [*]; done) | (simp; omega)); first | omega | assumption | (simp; done) | (simp; omega) | decide)) rfl ?_
                  rintro e w11 ⟨v34_0, rfl, hN⟩
                  refine ⟨_, rfl, trivial, ?_⟩; clear hE a; intro a hE
                  replace hM : Mem _ _ w11 [_, _, _, _, _, _, _, _, _, _] := hM.call0 hN ⟨rfl, trivial⟩; clear hN
                  refine s_move hE rfl rfl ?_; clear hE a; intro a hE
                  refine s_extract hE rfl rfl rfl ?_; clear hE a; intro a hE
                  refine s_extract hE rfl rfl rfl ?_; clear hE a; intro a hE
                  refine s_assign hE rfl rfl ?_; clear hE a; intro a hE
                  refine s_assign hE rfl rfl ?_; clear hE a; intro a hE
                  refine q_nil ?_
                  replace hE : Env a 48 [(0, _), (2, _), (3, _), (4, _), (5, _), (6, _), (9, _)] := hE.sel [0, 2, 3, 4, 5, 6, 9] rfl
                  refine hK5 _ _ ?_
                  refine wp_seq_k (fun K6 hK6 => ?_)
                  refine wp_seq_k (fun K7 hK7 => ?_)
                  refine wp_plain [true, true, true, true, true, true, true, true, true] rfl rfl ?_
                  refine s_move hE rfl rfl ?_; clear hE a; intro a hE
                  refine s_bin hE rfl rfl bin_neq rfl ?_; clear hE a; intro a hE
                  replace hE := hE.cast 38 rfl (show _ = Value.bool false from (congrArg Value.bool (by decide)))
                  refine s_move hE rfl rfl ?_; clear hE a; intro a hE
                  refine g_yes hE rfl rfl ?_
                  refine s_move hE rfl rfl ?_; clear hE a; intro a hE
                  refine g_yes hE rfl rfl ?_
                  obtain ⟨cs41, hs41⟩ := own_rd (hM.get 0 rfl)
                  refine s_toStr hE rfl Try.underlying55 Try.underlying5 Try.underlying9 hs41 (by intro X h; cases h) rfl ?_; clear hE a; intro a hE
                  refine g_yes hE rfl rfl ?_
                  refine s_move hE rfl rfl ?_; clear hE a; intro a hE
                  refine g_yes hE rfl rfl ?_
                  refine s_toStr hE rfl Try.underlying55 Try.underlying5 Try.underlying9 (hM.get 9 rfl) (by intro X h; cases h) rfl ?_; clear hE a; intro a hE
                  refine g_yes hE rfl rfl ?_
                  refine s_bin hE rfl rfl bins_str.2 rfl ?_; clear hE a; intro a hE
                  refine s_pickf hE rfl rfl rfl ?_; clear hE a; intro a hE
                  refine q_nil ?_
                  replace hE : Env a 48 [(0, _), (2, _), (3, _), (4, _), (9, _), (45, _)] := hE.sel [0, 2, 3, 4, 9, 45] rfl
                  refine hK7 _ _ ?_
                  replace hE := hE.cast 45 rfl (show _ = Value.bool true from (congrArg Value.bool (by first | rfl | simp [hrb])))
                  refine wp_cond_true (hE.eval rfl) ?_
                  refine wp_seq_k (fun K8 hK8 => ?_)
                  refine wp_plain [true, false, true] rfl rfl ?_
                  refine s_buildS [] hE rfl zero67 rfl fpl67 (by simp [PartsOk, Value.cells, *]) rfl ?_; clear hE a; intro a hE
                  replace hE := hE.cast 46 rfl (show _ = Value.agg ([[.int .u64 0], bv (List.replicate 32 (0 : UInt8)), bv (List.replicate 32 (0 : UInt8)), bv (List.replicate 32 (0 : UInt8)), [.int .i64 0], [.int .i64 0]] : List (List Value)).flatten.toArray from (by first | rfl | simp [setAll]))
                  replace hM : Mem _ _ w11 [_, _, _, _, _, _, _, _, _, _] := hM.pick [8, 0, 1, 2, 3, 4, 5, 6, 7, 9] rfl
                  refine s_storeSegs 0 6 (vss := [[.int .u64 0], bv (List.replicate 32 (0 : UInt8)), bv (List.replicate 32 (0 : UInt8)), bv (List.replicate 32 (0 : UInt8)), [.int .i64 0], [.int .i64 0]]) hE rfl rfl hM rfl sz67 (by have hl_s1 : (List.replicate 32 (0 : UInt8)).length = 32 := (by first | (simp; done) | (simp [*]; done) | (simp; omega)); have hl_s2 : (List.replicate 32 (0 : UInt8)).length = 32 := (by first | (simp; done) | (simp [*]; done) | (simp; omega)); have hl_s3 : (List.replicate 32 (0 : UInt8)).length = 32 := (by first | (simp; done) | (simp [*]; done) | (simp; omega));  simp only [List.map_cons, List.map_nil, bv_length, List.length_cons, List.length_nil, List.take_succ_cons, List.take_zero, List.drop_zero, List.drop_succ_cons, hl_s1, hl_s2, hl_s3]) (by decide) rfl (one_fl ⟨one1 rfl, bv_one _, bv_one _, bv_one _, one1 rfl, one1 rfl, trivial⟩) rfl (by intro X h; cases h) ?_; intro w12 hM'; clear hM; have hM := hM'; clear hM'
                  simp only [List.take_zero, List.take_succ_cons, List.drop_zero, List.drop_succ_cons, List.take_nil, List.drop_nil, List.nil_append, List.append_nil, List.cons_append] at hM
                  refine s_assign hE rfl rfl ?_; clear hE a; intro a hE
                  refine q_nil ?_
                  replace hE : Env a 48 [(0, _), (2, _), (3, _), (4, _), (9, _), (45, _)] := hE.sel [0, 2, 3, 4, 9, 45] rfl
                  refine hK8 _ _ ?_
                  refine wp_ret ?_
                  refine q_then_r ?_
                  refine f_ret2 hE rfl (res_cellN rfl (hM.get 0 rfl) row67 rfl) rfl ?_
                  exact ⟨(by first | rfl | simp), hM.pick [] rfl⟩
                trivial
              trivial
            trivial
          trivial
        trivial
      trivial
    trivial
  trivial
theorem get_yes (v : Value) (bs : List UInt8) (c : Nat) (w : World) (hr : (rd v 1 bs.length c (bv bs)).holds w) (h : getOk bs = true) : Calls Try.prog 28 #[v] w fun e w' => e = .returned (.tuple #[.agg ([[.int .u64 ((val ((bs.drop 8).take 8) : Nat) : Int)], bv ((bs.drop 16).take 32), bv ((bs.drop 48).take 32), bv ((bs.drop 80).take 32), [.int .i64 ((val ((bs.drop 112).take 4) : Nat) : Int)], [.int .i64 ((val ((bs.drop 116).take 4) : Nat) : Int)]] : List (List Value)).flatten.toArray, .int .i64 0]) ∧ Mem w [] w' [] := getroot_ok v bs c w hr h
theorem get_no (v : Value) (bs : List UInt8) (c : Nat) (w : World) (hr : (rd v 1 bs.length c (bv bs)).holds w) (h : getOk bs = false) : Calls Try.prog 28 #[v] w fun e w' => e = .returned (.tuple #[.agg ([[.int .u64 0], bv (List.replicate 32 (0 : UInt8)), bv (List.replicate 32 (0 : UInt8)), bv (List.replicate 32 (0 : UInt8)), [.int .i64 0], [.int .i64 0]] : List (List Value)).flatten.toArray, .int .i64 4]) ∧ Mem w [] w' [] := by
  by_cases hl : bs.length = 128
  case neg => exact getroot_len v bs c w hr hl
  exact getroot_bad v bs c w hr hl h
theorem rget_yes (v : Value) (bs : List UInt8) (c : Nat) (w : World) (hr : (rd v 1 bs.length c (bv bs)).holds w) (h : getOk bs = true) : Calls Try.prog 29 #[v] w fun e w' => e = .returned (.tuple #[.agg ([[.int .u64 ((val ((bs.drop 8).take 8) : Nat) : Int)], bv ((bs.drop 16).take 32), bv ((bs.drop 48).take 32), bv ((bs.drop 80).take 32), [.int .i64 ((val ((bs.drop 112).take 4) : Nat) : Int)], [.int .i64 ((val ((bs.drop 116).take 4) : Nat) : Int)]] : List (List Value)).flatten.toArray, .int .i64 0]) ∧ Mem w [] w' [] := by
  obtain ⟨hl, _, _, hro⟩ := getOk_facts h
  exact rgetroot_ok v bs c w hr hl hro ((getOk_put hl).1 h).2
theorem rget_no (v : Value) (bs : List UInt8) (c : Nat) (w : World) (hr : (rd v 1 bs.length c (bv bs)).holds w) (h : getOk bs = false) : Calls Try.prog 29 #[v] w fun e w' => e = .returned (.tuple #[.agg ([[.int .u64 0], bv (List.replicate 32 (0 : UInt8)), bv (List.replicate 32 (0 : UInt8)), bv (List.replicate 32 (0 : UInt8)), [.int .i64 0], [.int .i64 0]] : List (List Value)).flatten.toArray, .int .i64 4]) ∧ Mem w [] w' [] := by
  by_cases hl : bs.length = 128
  case neg => exact rgetroot_len v bs c w hr hl
  cases hro : rootOk (val ((bs.drop 8).take 8)) (val ((bs.drop 112).take 4) : Nat) (val ((bs.drop 116).take 4) : Nat)
  · exact rgetroot_bad1 v bs c w hr hl hro
  · refine rgetroot_bad2 v bs c w hr hl hro fun e => ?_
    rw [(getOk_put hl).2 ⟨hro, e⟩] at h; cases h
theorem put_a (rc : Nat) (rt rh rb : List UInt8) (rm ry : Int) (w : World) (ht : rt.length = 32) (hh : rh.length = 32) (hb : rb.length = 32) : Calls Try.prog 26 #[.agg ([[.int .u64 ((rc : Nat) : Int)], bv rt, bv rh, bv rb, [.int .i64 rm], [.int .i64 ry]] : List (List Value)).flatten.toArray] w fun e w' => ∃ v', e = .returned (.tuple #[v', .int .i64 ((putE rc rm ry : Nat) : Int)]) ∧ Mem w [] w' [own v' 1 (putL rc rt rh rb rm ry).length (bv (putL rc rt rh rb rm ry))] := by
  cases h : rootOk rc rm ry
  · rw [putL_no h, putE_no h]
    refine Calls.mono (putroot_bad rc rt rh rb rm ry w ht hh hb h) ?_
    rintro e w' ⟨rfl, hM⟩
    exact ⟨_, rfl, hM.addNil 1⟩
  · obtain ⟨hc, m, y, rfl, rfl, hm, hy⟩ := rootOk_nat h
    rw [putL_ok h, putE_ok h]
    exact putroot_c rc rt rh rb m y w ht hh hb hc hm hy
theorem rput_a (rc : Nat) (rt rh rb : List UInt8) (rm ry : Int) (w : World) (ht : rt.length = 32) (hh : rh.length = 32) (hb : rb.length = 32) : Calls Try.prog 27 #[.agg ([[.int .u64 ((rc : Nat) : Int)], bv rt, bv rh, bv rb, [.int .i64 rm], [.int .i64 ry]] : List (List Value)).flatten.toArray] w fun e w' => ∃ v', e = .returned (.tuple #[v', .int .i64 ((putE rc rm ry : Nat) : Int)]) ∧ Mem w [] w' [own v' 1 (putL rc rt rh rb rm ry).length (bv (putL rc rt rh rb rm ry))] := by
  cases h : rootOk rc rm ry
  · rw [putL_no h, putE_no h]
    refine Calls.mono (rputroot_bad rc rt rh rb rm ry w ht hh hb h) ?_
    rintro e w' ⟨rfl, hM⟩
    exact ⟨_, rfl, hM.addNil 1⟩
  · obtain ⟨hc, m, y, rfl, rfl, hm, hy⟩ := rootOk_nat h
    rw [putL_ok h, putE_ok h]
    exact rputroot_c rc rt rh rb m y w ht hh hb hc hm hy
end Go.Proofs.Ytlieojojahhmmaa
