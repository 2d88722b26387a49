/- BoxTold of casematelaw10 returns true for whatever key, label, number, key and box. No condition. -/
import Derived.Test.YtniekapfoaiieaaDoorLg
import Derived.Test.YtniekapfoaiieaaDoorTie
import Derived.Test.YtniekapfoaiieaaDoorCards
set_option linter.unusedSimpArgs false
set_option linter.unusedVariables false
namespace Go.Proofs.YtniekapfoaiieaaDoor
open Go Go.Kx
open Go.ChangeShapes Go.WideShapes Go.ChangeAt Go.RowKit
theorem fo26_0 : fieldOff Tryd.prog 26 0 = some 0 := by kernel_rfl
theorem fo26_2 : fieldOff Tryd.prog 26 2 = some 33 := by kernel_rfl
theorem row26 : RowT Tryd.prog 26 34 := RowT.of Tryd.underlying26 rfl (by kernel_rfl)
theorem boxTold_c (k : List UInt8) (l : List UInt8) (n : Nat) (p : List UInt8) (d : List UInt8) (t : List UInt8) (w : World) (hG : (glb 1).holds w) (hT : tabP.holds w) (hl_k : k.length = 32) (hl_p : p.length = 32) (hl_d : d.length = 32) (hl_t : t.length = 32) (hn : n < 18446744073709551616) : Calls Tryd.prog 3 #[.agg ([bv k, [.string (str l)], [.int .u64 ((n : Nat) : Int)]] : List (List Value)).flatten.toArray, .agg (bv p).toArray, .agg ([bv d, bv t] : List (List Value)).flatten.toArray] w fun e w' => e = .returned (.bool true) ∧ Mem w [] w' [] := by
  have hdw := decW_len n hn
  have hM : Mem w [] w [glb 1, tabP] := Mem.startR w (fun g hg => by
    simp only [List.mem_cons, List.not_mem_nil, or_false] at hg
    rcases hg with rfl | rfl
    · exact ⟨hG, rfl⟩
    · exact ⟨hT, rfl⟩)
  refine f_enter 110 Tryd.func3 rfl rfl rfl ?_
  intro a hE
  replace hE : Env a 110 [(0, _), (1, _), (2, _)] := hE
  refine wp_seq_k (fun K1 hK1 => ?_)
  refine wp_plain [false, false, false, true] rfl rfl ?_
  refine s_box (ss := [bv k, [.string (str l)], [.int .u64 ((n : Nat) : Int)]]) [32, 1, 1] hE hM rfl rfl (by simp [*]) rfl ?_; clear hE a; intro a b3 w1 hE hM'
  clear hM; have hM := hM'; clear hM'
  refine s_box (ss := [bv p]) [32] hE hM rfl (by simp [Value.cells]) (by simp [*]) rfl ?_; clear hE a; intro a b4 w2 hE hM'
  clear hM; have hM := hM'; clear hM'
  refine s_box (ss := [bv d, bv t]) [32, 32] hE hM rfl rfl (by simp [*]) rfl ?_; clear hE a; intro a b5 w3 hE hM'
  clear hM; have hM := hM'; clear hM'
  refine s_assign hE rfl rfl ?_; clear hE a; intro a hE
  refine q_nil ?_
  replace hE : Env a 110 [(3, _), (4, _), (5, _), (6, _)] := hE.sel [3, 4, 5, 6] rfl
  refine hK1 _ _ ?_
  refine wp_seq_j (fun a w' => ∃ (b7 : Nat), Env a 110 [(3, .pointer (some ⟨b3, 0, none⟩)), (4, .pointer (some ⟨b4, 0, none⟩)), (5, .pointer (some ⟨b5, 0, none⟩)), (6, .bool false), (7, .pointer (some ⟨b7, 0, none⟩))] ∧ Mem w [] w' [blk b7 [bv (wrapD k (l.take (min l.length 100)) n p), bv (tagB k (l.take (min l.length 100)) n (wrapD k (l.take (min l.length 100)) n p))] [32, 32] 29, blk b5 [bv d, bv t] [32, 32] 29, blk b4 [bv p] [32] 23, blk b3 [bv k, [.string (str l)], [.int .u64 ((n : Nat) : Int)]] [32, 1, 1] 26, glb 1, tabP]) ?_ ?_
  · refine wp_treeM hM (by kernel_rfl) (fun _ => True) (fun _ => True) (.re [(0, true), (4, true), (1, true), (2, true), (5, true), (6, true), (3, false), (7, false), (8, false), (9, false)] (.fl 2 (.weak (.fl 4 (.or 3 (.re [(7, false), (8, false), (9, false)] (.fl 0 (.fl 0 (.or 7 (.re [(8, false), (9, false)] (.fl 0 (.fl 0 (.or 8 (.cut (.re [(9, false)] (.fl 0 (.fl 0 (.weak (.or 9 (.cut (.re [] (.weak (.leaf 0)))) (.stop))))))) (.stop))))) (.or 8 (.cut (.re [(7, false), (9, false)] (.fl 0 (.fl 0 (.or 7 (.re [(9, false)] (.fl 0 (.fl 0 (.weak (.or 9 (.cut (.re [] (.weak (.leaf 0)))) (.stop)))))) (.stop)))))) (.stop)))))) (.or 8 (.re [(3, false), (7, false), (9, false)] (.fl 0 (.fl 0 (.or 3 (.cut (.re [(7, false), (9, false)] (.fl 0 (.fl 0 (.or 7 (.re [(9, false)] (.fl 0 (.fl 0 (.weak (.or 9 (.cut (.re [] (.weak (.leaf 0)))) (.stop)))))) (.stop)))))) (.stop))))) (.stop))))))) [(0, true), (4, true), (1, true), (2, true), (5, true), (6, true), (3, false), (7, false), (8, false), (9, false)] [(0, [(1, 0), (7, 1), (9, 0)]), (1, [(7, 1), (9, 1)]), (2, [(3, 2), (7, 3), (9, 2)]), (3, [(7, 3), (9, 3)]), (4, [(5, 4), (7, 5), (9, 4)]), (5, [(7, 5), (9, 5)]), (6, [(7, 6), (9, 6)]), (7, [(9, 7)]), (8, [(9, 8)]), (9, [])] (by kernel_rfl) ?_
    intro w4 hM' hww4; clear hM; have hM := hM'; clear hM'
    refine o_re ?_
    refine o_fl rfl ?_
    refine s_fieldAddr hE rfl fo26_0 rfl ?_; clear hE a; intro a hE
    refine s_fieldAddr hE rfl fo26_2 rfl ?_; clear hE a; intro a hE
    refine q_nil (q_nx ?_)
    refine o_weak (fun _ => False) (fun _ _ => trivial) ?_
    refine o_fl rfl ?_
    refine s_loadN hE rfl (hM.get 2 rfl) row23 rfl (by intro X h; cases h; simp) rfl ?_; clear hE a; intro a hE
    refine s_loadN hE rfl (hM.get 2 rfl) row26 rfl (by intro X h; cases h; simp) rfl ?_; clear hE a; intro a hE
    replace hE := hE.cast 17 rfl (show _ = Value.agg ([bv k, [.string (str l)], [.int .u64 ((n : Nat) : Int)]] : List (List Value)).flatten.toArray from (by first | (simp only [List.flatten_cons, List.flatten_nil, List.append_nil, List.append_assoc]; done) | rfl | simp))
    refine s_load1 hE rfl (hM.get 2 rfl) rfl one24 (by intro X h; cases h; simp) rfl ?_; clear hE a; intro a hE
    refine s_loadN hE rfl (hM.get 1 rfl) row23 rfl (by intro X h; cases h; simp) rfl ?_; clear hE a; intro a hE
    refine q_nil (q_nx ?_)
    refine o_or rfl ?_ ?_
    · refine s_call hE rfl Tryd.call15 (label10_c k l n _ hl_k) rfl ?_
      rintro e w5 ⟨rfl, hN⟩
      refine ⟨_, rfl, hN.sta0 _, ?_⟩; clear hE a; intro a hE
      replace hM : Mem _ _ w5 [_, _, _, _, _] := hM.call0 hN trivial; clear hN
      refine q_nil (q_nx ?_)
      refine o_re ?_
      refine o_fl rfl ?_
      refine q_nil (q_nx ?_)
      refine o_fl rfl ?_
      refine q_nil (q_nx ?_)
      refine o_or rfl ?_ ?_
      · refine s_call hE rfl Tryd.call14 (wrap_c k (l.take (min l.length 100)) n p _ (hM.get 3 rfl) (hM.get 4 rfl) hl_k hl_p (by have hl_0 : k.length = 32 := hl_k; have hl_1 : (l.take (min l.length 100)).length = min l.length 100 := (by rw [List.length_take]; omega); have hl_3 : p.length = 32 := hl_p; first | omega | assumption | (simp; done) | (simp; omega) | decide) (by have hl_0 : k.length = 32 := hl_k; have hl_1 : (l.take (min l.length 100)).length = min l.length 100 := (by rw [List.length_take]; omega); have hl_3 : p.length = 32 := hl_p; first | omega | assumption | (simp; done) | (simp; omega) | decide)) rfl ?_
        rintro e w6 ⟨rfl, hN⟩
        refine ⟨_, rfl, hN.sta0 _, ?_⟩; clear hE a; intro a hE
        replace hM : Mem _ _ w6 [_, _, _, _, _] := hM.call0 hN trivial; clear hN
        refine q_nil (q_nx ?_)
        refine o_re ?_
        refine o_fl rfl ?_
        refine q_nil (q_nx ?_)
        refine o_fl rfl ?_
        refine q_nil (q_nx ?_)
        refine o_or rfl ?_ ?_
        · refine s_alloc [32, 32] hE hM zero29 rfl rfl ?_; clear hE a; intro a b7 w7 hE hM'
          clear hM; have hM := hM'; clear hM'
          refine q_nil (q_nx ?_)
          refine o_cut (fun _ => True) ?_
          refine o_re ?_
          refine o_fl rfl ?_
          refine q_nil (q_nx ?_)
          refine o_fl rfl ?_
          refine q_nil (q_nx ?_)
          refine o_weak (fun b => b = b7) (fun _ _ => trivial) ?_
          refine o_or rfl ?_ ?_
          · refine s_storeSegs 0 2 (vss := [bv (wrapD k (l.take (min l.length 100)) n p), bv (tagB k (l.take (min l.length 100)) n (wrapD k (l.take (min l.length 100)) n p))]) hE rfl rfl hM rfl sz29 (by have hl_s0 : (wrapD k (l.take (min l.length 100)) n p).length = 32 := (wrapD_len (k := k) (l := (l.take (min l.length 100))) (n := n) (x := p) (by have hl_ax : p.length = 32 := hl_p; first | assumption | (simp; done))); have hl_s1 : (tagB k (l.take (min l.length 100)) n (wrapD k (l.take (min l.length 100)) n p)).length = 32 := (tagB_len k (l.take (min l.length 100)) n (wrapD k (l.take (min l.length 100)) n p));  simp only [List.map_cons, List.map_nil, bv_length, List.length_cons, List.length_nil, List.take_succ_cons, List.take_zero, List.drop_zero, List.drop_succ_cons, hl_s0, hl_s1]) (by decide) rfl (one_fl ⟨bv_one _, bv_one _, trivial⟩) rfl (by intro X h; cases h; rfl) ?_; intro w8 hM'; clear hM; have hM := hM'; clear hM'
            simp only [List.take_zero, List.take_succ_cons, List.drop_zero, List.drop_succ_cons, List.take_nil, List.drop_nil, List.nil_append, List.append_nil, List.cons_append] at hM
            refine q_nil (q_nx ?_)
            refine o_cut (fun _ => True) ?_
            refine o_re ?_
            refine o_weak (fun _ => False) (fun _ _ => trivial) ?_
            refine o_leaf rfl rfl ?_
            refine q_nil (q_ph (q_nil ?_))
            replace hE : Env a 110 [(3, _), (4, _), (5, _), (6, _), (7, _)] := hE.sel [3, 4, 5, 6, 7] rfl
            replace hM : Mem _ _ w8 [_, _, _, _, _, _] := hM.pick [0, 1, 2, 3, 4, 5] rfl
            refine q_then_n ⟨_, hE.sel [3, 4, 5, 6, 7] rfl, hM⟩
          trivial
        trivial
      refine o_or rfl ?_ ?_
      · refine s_alloc [32, 32] hE hM zero29 rfl rfl ?_; clear hE a; intro a b7 w6 hE hM'
        clear hM; have hM := hM'; clear hM'
        refine q_nil (q_nx ?_)
        refine o_cut (fun _ => True) ?_
        refine o_re ?_
        refine o_fl rfl ?_
        refine q_nil (q_nx ?_)
        refine o_fl rfl ?_
        refine q_nil (q_nx ?_)
        refine o_or rfl ?_ ?_
        · refine s_call hE rfl Tryd.call14 (wrap_c k (l.take (min l.length 100)) n p _ (hM.get 4 rfl) (hM.get 5 rfl) hl_k hl_p (by have hl_0 : k.length = 32 := hl_k; have hl_1 : (l.take (min l.length 100)).length = min l.length 100 := (by rw [List.length_take]; omega); have hl_3 : p.length = 32 := hl_p; first | omega | assumption | (simp; done) | (simp; omega) | decide) (by have hl_0 : k.length = 32 := hl_k; have hl_1 : (l.take (min l.length 100)).length = min l.length 100 := (by rw [List.length_take]; omega); have hl_3 : p.length = 32 := hl_p; first | omega | assumption | (simp; done) | (simp; omega) | decide)) rfl ?_
          rintro e w7 ⟨rfl, hN⟩
          refine ⟨_, rfl, hN.sta0 _, ?_⟩; clear hE a; intro a hE
          replace hM : Mem _ _ w7 [_, _, _, _, _, _] := hM.call0 hN trivial; clear hN
          refine q_nil (q_nx ?_)
          refine o_re ?_
          refine o_fl rfl ?_
          refine q_nil (q_nx ?_)
          refine o_fl rfl ?_
          refine q_nil (q_nx ?_)
          refine o_weak (fun b => b = b7) (fun _ _ => trivial) ?_
          refine o_or rfl ?_ ?_
          · refine s_storeSegs 0 2 (vss := [bv (wrapD k (l.take (min l.length 100)) n p), bv (tagB k (l.take (min l.length 100)) n (wrapD k (l.take (min l.length 100)) n p))]) hE rfl rfl hM rfl sz29 (by have hl_s0 : (wrapD k (l.take (min l.length 100)) n p).length = 32 := (wrapD_len (k := k) (l := (l.take (min l.length 100))) (n := n) (x := p) (by have hl_ax : p.length = 32 := hl_p; first | assumption | (simp; done))); have hl_s1 : (tagB k (l.take (min l.length 100)) n (wrapD k (l.take (min l.length 100)) n p)).length = 32 := (tagB_len k (l.take (min l.length 100)) n (wrapD k (l.take (min l.length 100)) n p));  simp only [List.map_cons, List.map_nil, bv_length, List.length_cons, List.length_nil, List.take_succ_cons, List.take_zero, List.drop_zero, List.drop_succ_cons, hl_s0, hl_s1]) (by decide) rfl (one_fl ⟨bv_one _, bv_one _, trivial⟩) rfl (by intro X h; cases h; rfl) ?_; intro w8 hM'; clear hM; have hM := hM'; clear hM'
            simp only [List.take_zero, List.take_succ_cons, List.drop_zero, List.drop_succ_cons, List.take_nil, List.drop_nil, List.nil_append, List.append_nil, List.cons_append] at hM
            refine q_nil (q_nx ?_)
            refine o_cut (fun _ => True) ?_
            refine o_re ?_
            refine o_weak (fun _ => False) (fun _ _ => trivial) ?_
            refine o_leaf rfl rfl ?_
            refine q_nil (q_ph (q_nil ?_))
            replace hE : Env a 110 [(3, _), (4, _), (5, _), (6, _), (7, _)] := hE.sel [3, 4, 5, 6, 7] rfl
            replace hM : Mem _ _ w8 [_, _, _, _, _, _] := hM.pick [0, 1, 2, 3, 4, 5] rfl
            refine q_then_n ⟨_, hE.sel [3, 4, 5, 6, 7] rfl, hM⟩
          trivial
        trivial
      trivial
    refine o_or rfl ?_ ?_
    · refine s_alloc [32, 32] hE hM zero29 rfl rfl ?_; clear hE a; intro a b7 w5 hE hM'
      clear hM; have hM := hM'; clear hM'
      refine q_nil (q_nx ?_)
      refine o_re ?_
      refine o_fl rfl ?_
      refine q_nil (q_nx ?_)
      refine o_fl rfl ?_
      refine q_nil (q_nx ?_)
      refine o_or rfl ?_ ?_
      · refine s_call hE rfl Tryd.call15 (label10_c k l n _ hl_k) rfl ?_
        rintro e w6 ⟨rfl, hN⟩
        refine ⟨_, rfl, hN.sta0 _, ?_⟩; clear hE a; intro a hE
        replace hM : Mem _ _ w6 [_, _, _, _, _, _] := hM.call0 hN trivial; clear hN
        refine q_nil (q_nx ?_)
        refine o_cut (fun _ => True) ?_
        refine o_re ?_
        refine o_fl rfl ?_
        refine q_nil (q_nx ?_)
        refine o_fl rfl ?_
        refine q_nil (q_nx ?_)
        refine o_or rfl ?_ ?_
        · refine s_call hE rfl Tryd.call14 (wrap_c k (l.take (min l.length 100)) n p _ (hM.get 4 rfl) (hM.get 5 rfl) hl_k hl_p (by have hl_0 : k.length = 32 := hl_k; have hl_1 : (l.take (min l.length 100)).length = min l.length 100 := (by rw [List.length_take]; omega); have hl_3 : p.length = 32 := hl_p; first | omega | assumption | (simp; done) | (simp; omega) | decide) (by have hl_0 : k.length = 32 := hl_k; have hl_1 : (l.take (min l.length 100)).length = min l.length 100 := (by rw [List.length_take]; omega); have hl_3 : p.length = 32 := hl_p; first | omega | assumption | (simp; done) | (simp; omega) | decide)) rfl ?_
          rintro e w7 ⟨rfl, hN⟩
          refine ⟨_, rfl, hN.sta0 _, ?_⟩; clear hE a; intro a hE
          replace hM : Mem _ _ w7 [_, _, _, _, _, _] := hM.call0 hN trivial; clear hN
          refine q_nil (q_nx ?_)
          refine o_re ?_
          refine o_fl rfl ?_
          refine q_nil (q_nx ?_)
          refine o_fl rfl ?_
          refine q_nil (q_nx ?_)
          refine o_weak (fun b => b = b7) (fun _ _ => trivial) ?_
          refine o_or rfl ?_ ?_
          · refine s_storeSegs 0 2 (vss := [bv (wrapD k (l.take (min l.length 100)) n p), bv (tagB k (l.take (min l.length 100)) n (wrapD k (l.take (min l.length 100)) n p))]) hE rfl rfl hM rfl sz29 (by have hl_s0 : (wrapD k (l.take (min l.length 100)) n p).length = 32 := (wrapD_len (k := k) (l := (l.take (min l.length 100))) (n := n) (x := p) (by have hl_ax : p.length = 32 := hl_p; first | assumption | (simp; done))); have hl_s1 : (tagB k (l.take (min l.length 100)) n (wrapD k (l.take (min l.length 100)) n p)).length = 32 := (tagB_len k (l.take (min l.length 100)) n (wrapD k (l.take (min l.length 100)) n p));  simp only [List.map_cons, List.map_nil, bv_length, List.length_cons, List.length_nil, List.take_succ_cons, List.take_zero, List.drop_zero, List.drop_succ_cons, hl_s0, hl_s1]) (by decide) rfl (one_fl ⟨bv_one _, bv_one _, trivial⟩) rfl (by intro X h; cases h; rfl) ?_; intro w8 hM'; clear hM; have hM := hM'; clear hM'
            simp only [List.take_zero, List.take_succ_cons, List.drop_zero, List.drop_succ_cons, List.take_nil, List.drop_nil, List.nil_append, List.append_nil, List.cons_append] at hM
            refine q_nil (q_nx ?_)
            refine o_cut (fun _ => True) ?_
            refine o_re ?_
            refine o_weak (fun _ => False) (fun _ _ => trivial) ?_
            refine o_leaf rfl rfl ?_
            refine q_nil (q_ph (q_nil ?_))
            replace hE : Env a 110 [(3, _), (4, _), (5, _), (6, _), (7, _)] := hE.sel [3, 4, 5, 6, 7] rfl
            replace hM : Mem _ _ w8 [_, _, _, _, _, _] := hM.pick [0, 1, 2, 3, 4, 5] rfl
            refine q_then_n ⟨_, hE.sel [3, 4, 5, 6, 7] rfl, hM⟩
          trivial
        trivial
      trivial
    trivial
  clear hE hM a; rintro a w9 ⟨b7, hE, hM⟩
  refine wp_seq_k (fun K2 hK2 => ?_)
  refine wp_plain [true, false, false] rfl rfl ?_
  refine s_loadN hE rfl (hM.get 1 rfl) row29 rfl (by intro X h; cases h) rfl ?_; clear hE a; intro a hE
  replace hE := hE.cast 23 rfl (show _ = Value.agg ([bv d, bv t] : List (List Value)).flatten.toArray from (by first | (simp only [List.flatten_cons, List.flatten_nil, List.append_nil, List.append_assoc]; done) | rfl | simp))
  refine s_alloc [32, 32] hE hM zero29 rfl rfl ?_; clear hE a; intro a b8 w10 hE hM'
  clear hM; have hM := hM'; clear hM'
  refine s_storeSegs 0 2 (vss := [bv d, bv t]) hE rfl rfl hM rfl sz29 (by have hl_s0 : d.length = 32 := hl_d; have hl_s1 : t.length = 32 := hl_t;  simp only [List.map_cons, List.map_nil, bv_length, List.length_cons, List.length_nil, List.take_succ_cons, List.take_zero, List.drop_zero, List.drop_succ_cons, hl_s0, hl_s1]) (by decide) rfl (one_fl ⟨bv_one _, bv_one _, trivial⟩) rfl (by intro X h; cases h) ?_; intro w11 hM'; clear hM; have hM := hM'; clear hM'
  simp only [List.take_zero, List.take_succ_cons, List.drop_zero, List.drop_succ_cons, List.take_nil, List.drop_nil, List.nil_append, List.append_nil, List.cons_append] at hM
  refine q_nil ?_
  replace hE : Env a 110 [(3, _), (4, _), (5, _), (6, _), (7, _), (8, _)] := hE.sel [3, 4, 5, 6, 7, 8] rfl
  refine hK2 _ _ ?_
  refine wp_seq_k (fun K3 hK3 => ?_)
  refine wp_plain [true, true, true, false] rfl rfl ?_
  refine s_fieldAddr hE rfl fo29_0 rfl ?_; clear hE a; intro a hE
  refine s_loadN hE rfl (hM.get 1 rfl) row23 rfl (by intro X h; cases h) rfl ?_; clear hE a; intro a hE
  refine s_fieldAddr hE rfl fo29_0 rfl ?_; clear hE a; intro a hE
  refine s_storeSeg 0 hE rfl rfl hM rfl sz23 ((bv_length _).trans (wrapD_len (k := k) (l := (l.take (min l.length 100))) (n := n) (x := p) (by have hl_ax : p.length = 32 := hl_p; first | assumption | (simp; done)))) (bv_one _) rfl ((bv_length _).trans hl_d) rfl (by intro X h; cases h) ?_; intro w12 hM'; clear hM; have hM := hM'; clear hM'
  simp only [List.set_cons_zero, List.set_cons_succ] at hM
  refine q_nil ?_
  replace hE : Env a 110 [(3, _), (4, _), (5, _), (6, _), (7, _), (8, _)] := hE.sel [3, 4, 5, 6, 7, 8] rfl
  refine hK3 _ _ ?_
  refine wp_seq_j (fun a w' => ∃ (b9 : Nat), Env a 110 [(3, .pointer (some ⟨b3, 0, none⟩)), (4, .pointer (some ⟨b4, 0, none⟩)), (5, .pointer (some ⟨b5, 0, none⟩)), (6, .bool false), (7, .pointer (some ⟨b7, 0, none⟩)), (8, .pointer (some ⟨b8, 0, none⟩)), (10, .int .i64 ((unwE k (l.take (min l.length 100)) n (wrapD k (l.take (min l.length 100)) n p) t : Nat) : Int))] ∧ Mem w [] w' [blk b9 [bv (unwK k (l.take (min l.length 100)) n (wrapD k (l.take (min l.length 100)) n p) t)] [32] 23, blk b8 [bv (wrapD k (l.take (min l.length 100)) n p), bv t] [32, 32] 29, blk b7 [bv (wrapD k (l.take (min l.length 100)) n p), bv (tagB k (l.take (min l.length 100)) n (wrapD k (l.take (min l.length 100)) n p))] [32, 32] 29, blk b5 [bv d, bv t] [32, 32] 29, blk b4 [bv p] [32] 23, blk b3 [bv k, [.string (str l)], [.int .u64 ((n : Nat) : Int)]] [32, 1, 1] 26, glb 1, tabP]) ?_ ?_
  · refine wp_treeM hM (by kernel_rfl) (fun _ => True) (fun _ => True) (.re [(0, true), (4, true), (1, true), (2, true), (5, true), (6, true), (3, false), (7, false), (8, true), (9, true), (10, true), (11, false), (12, false), (13, true)] (.fl 2 (.weak (.fl 4 (.or 3 (.re [(7, false), (8, true), (9, true), (10, true), (11, false), (12, false), (13, true)] (.fl 0 (.fl 0 (.or 7 (.re [(8, true), (9, true), (10, true), (11, false), (12, false), (13, true)] (.fl 3 (.fl 0 (.or 11 (.re [(12, false), (13, true)] (.fl 0 (.fl 0 (.or 12 (.cut (.re [(13, true)] (.weak (.leaf 1)))) (.stop))))) (.stop))))) (.or 11 (.cut (.re [(7, false), (8, true), (9, true), (10, true), (12, false), (13, true)] (.fl 0 (.fl 0 (.or 7 (.re [(8, true), (9, true), (10, true), (12, false), (13, true)] (.fl 3 (.fl 0 (.weak (.or 12 (.cut (.re [(13, true)] (.weak (.leaf 1)))) (.stop)))))) (.stop)))))) (.stop)))))) (.or 11 (.re [(3, false), (7, false), (8, true), (9, true), (10, true), (12, false), (13, true)] (.fl 0 (.fl 0 (.or 3 (.cut (.re [(7, false), (8, true), (9, true), (10, true), (12, false), (13, true)] (.fl 0 (.fl 0 (.or 7 (.re [(8, true), (9, true), (10, true), (12, false), (13, true)] (.fl 3 (.fl 0 (.weak (.or 12 (.cut (.re [(13, true)] (.weak (.leaf 1)))) (.stop)))))) (.stop)))))) (.stop))))) (.stop))))))) [(0, true), (4, true), (1, true), (2, true), (5, true), (6, true), (3, false), (7, false), (8, true), (9, true), (10, true), (11, false), (12, false), (13, true)] [(0, [(1, 0), (7, 1), (8, 7), (9, 8), (10, 8), (12, 0), (13, 0)]), (1, [(7, 1), (8, 7), (9, 8), (10, 8), (12, 1), (13, 1)]), (2, [(3, 2), (7, 3), (8, 7), (9, 8), (10, 8), (12, 2), (13, 2)]), (3, [(7, 3), (8, 7), (9, 8), (10, 8), (12, 3), (13, 3)]), (4, [(5, 4), (7, 5), (8, 7), (9, 8), (10, 8), (12, 4), (13, 4)]), (5, [(7, 5), (8, 7), (9, 8), (10, 8), (12, 5), (13, 5)]), (6, [(7, 6), (8, 7), (9, 8), (10, 8), (12, 6), (13, 6)]), (7, [(8, 7), (9, 8), (10, 8), (12, 7), (13, 7)]), (9, [(12, 9), (13, 9)]), (10, [(13, 10)]), (11, [(12, 11), (13, 11)]), (12, [(13, 12)])] (by kernel_rfl) ?_
    intro w13 hM' hww13; clear hM; have hM := hM'; clear hM'
    refine o_re ?_
    refine o_fl rfl ?_
    refine s_fieldAddr hE rfl fo26_0 rfl ?_; clear hE a; intro a hE
    refine s_fieldAddr hE rfl fo26_2 rfl ?_; clear hE a; intro a hE
    refine q_nil (q_nx ?_)
    refine o_weak (fun b => b ≠ b3 ∧ b ≠ b8) (fun _ _ => trivial) ?_
    refine o_fl rfl ?_
    refine s_loadN hE rfl (hM.get 4 rfl) row23 rfl (by intro X h; cases h; simp) rfl ?_; clear hE a; intro a hE
    refine s_loadN hE rfl (hM.get 4 rfl) row26 rfl (by intro X h; cases h; simp) rfl ?_; clear hE a; intro a hE
    replace hE := hE.cast 30 rfl (show _ = Value.agg ([bv k, [.string (str l)], [.int .u64 ((n : Nat) : Int)]] : List (List Value)).flatten.toArray from (by first | (simp only [List.flatten_cons, List.flatten_nil, List.append_nil, List.append_assoc]; done) | rfl | simp))
    refine s_load1 hE rfl (hM.get 4 rfl) rfl one24 (by intro X h; cases h; simp) rfl ?_; clear hE a; intro a hE
    refine s_loadN hE rfl (hM.get 0 rfl) row29 rfl (by intro X h; cases h; simp) rfl ?_; clear hE a; intro a hE
    replace hE := hE.cast 34 rfl (show _ = Value.agg ([bv (wrapD k (l.take (min l.length 100)) n p), bv t] : List (List Value)).flatten.toArray from (by first | (simp only [List.flatten_cons, List.flatten_nil, List.append_nil, List.append_assoc]; done) | rfl | simp))
    refine q_nil (q_nx ?_)
    refine o_or rfl ?_ ?_
    · refine s_call hE rfl Tryd.call15 (label10_c k l n _ hl_k) rfl ?_
      rintro e w14 ⟨rfl, hN⟩
      refine ⟨_, rfl, hN.sta0 _, ?_⟩; clear hE a; intro a hE
      replace hM : Mem _ _ w14 [_, _, _, _, _, _, _] := hM.call0 hN trivial; clear hN
      refine q_nil (q_nx ?_)
      refine o_re ?_
      refine o_fl rfl ?_
      refine q_nil (q_nx ?_)
      refine o_fl rfl ?_
      refine q_nil (q_nx ?_)
      refine o_or rfl ?_ ?_
      · refine s_call hE rfl Tryd.call16 (unwrap_c k (l.take (min l.length 100)) n (wrapD k (l.take (min l.length 100)) n p) t _ (hM.get 5 rfl) (hM.get 6 rfl) hl_k (wrapD_len (k := k) (l := (l.take (min l.length 100))) (n := n) (x := p) (by have hl_ax : p.length = 32 := hl_p; first | assumption | (simp; done))) hl_t (by have hl_0 : k.length = 32 := hl_k; have hl_1 : (l.take (min l.length 100)).length = min l.length 100 := (by rw [List.length_take]; omega); have hl_3d : (wrapD k (l.take (min l.length 100)) n p).length = 32 := (wrapD_len (k := k) (l := (l.take (min l.length 100))) (n := n) (x := p) (by have hl_ax : p.length = 32 := hl_p; first | assumption | (simp; done))); have hl_3t : t.length = 32 := hl_t; first | omega | assumption | (simp; done) | (simp; omega) | decide) (by have hl_0 : k.length = 32 := hl_k; have hl_1 : (l.take (min l.length 100)).length = min l.length 100 := (by rw [List.length_take]; omega); have hl_3d : (wrapD k (l.take (min l.length 100)) n p).length = 32 := (wrapD_len (k := k) (l := (l.take (min l.length 100))) (n := n) (x := p) (by have hl_ax : p.length = 32 := hl_p; first | assumption | (simp; done))); have hl_3t : t.length = 32 := hl_t; first | omega | assumption | (simp; done) | (simp; omega) | decide)) rfl ?_
        rintro e w15 ⟨rfl, hN⟩
        refine ⟨_, rfl, hN.sta0 _, ?_⟩; clear hE a; intro a hE
        replace hM : Mem _ _ w15 [_, _, _, _, _, _, _] := hM.call0 hN trivial; clear hN
        refine q_nil (q_nx ?_)
        refine o_re ?_
        refine o_fl rfl ?_
        refine s_move hE rfl rfl ?_; clear hE a; intro a hE
        refine s_extract hE rfl rfl rfl ?_; clear hE a; intro a hE
        refine s_extract hE rfl rfl rfl ?_; clear hE a; intro a hE
        refine q_nil (q_nx ?_)
        refine o_fl rfl ?_
        refine q_nil (q_nx ?_)
        refine o_or rfl ?_ ?_
        · refine s_alloc [32] hE hM zero23 rfl rfl ?_; clear hE a; intro a b9 w16 hE hM'
          clear hM; have hM := hM'; clear hM'
          refine q_nil (q_nx ?_)
          refine o_re ?_
          refine o_fl rfl ?_
          refine q_nil (q_nx ?_)
          refine o_fl rfl ?_
          refine q_nil (q_nx ?_)
          refine o_or rfl ?_ ?_
          · refine s_storeSeg 0 hE rfl rfl hM rfl sz23 ((bv_length _).trans (unwK_len (k := k) (l := (l.take (min l.length 100))) (n := n) (d := (wrapD k (l.take (min l.length 100)) n p)) (t := t) (by have hl_std : (wrapD k (l.take (min l.length 100)) n p).length = 32 := (wrapD_len (k := k) (l := (l.take (min l.length 100))) (n := n) (x := p) (by have hl_ax : p.length = 32 := hl_p; first | assumption | (simp; done))); first | assumption | (simp; done)))) (bv_one _) rfl ((bv_length _).trans (by first | (simp; done) | (simp [*]; done) | (simp; omega))) rfl (by intro X h; cases h; exact ⟨fun e => ((apart_of_get hM.apart (i := 0) (j := 5) rfl rfl (by decide)).1 _ (.head _)).1 (by rw [e]; exact .head _), fun e => ((apart_of_get hM.apart (i := 0) (j := 1) rfl rfl (by decide)).1 _ (.head _)).1 (by rw [e]; exact .head _)⟩) ?_; intro w17 hM'; clear hM; have hM := hM'; clear hM'
            simp only [List.set_cons_zero, List.set_cons_succ] at hM
            refine q_nil (q_nx ?_)
            refine o_cut (fun _ => True) ?_
            refine o_re ?_
            refine o_weak (fun _ => False) (fun _ _ => trivial) ?_
            refine o_leaf rfl rfl ?_
            refine s_assign hE rfl rfl ?_; clear hE a; intro a hE
            refine q_nil (q_ph (q_nil ?_))
            replace hE : Env a 110 [(3, _), (4, _), (5, _), (6, _), (7, _), (8, _), (10, _)] := hE.sel [3, 4, 5, 6, 7, 8, 10] rfl
            replace hM : Mem _ _ w17 [_, _, _, _, _, _, _, _] := hM.pick [0, 1, 2, 3, 4, 5, 6, 7] rfl
            refine q_then_n ⟨_, hE.sel [3, 4, 5, 6, 7, 8, 10] rfl, hM⟩
          trivial
        trivial
      refine o_or rfl ?_ ?_
      · refine s_alloc [32] hE hM zero23 rfl rfl ?_; clear hE a; intro a b9 w15 hE hM'
        clear hM; have hM := hM'; clear hM'
        refine q_nil (q_nx ?_)
        refine o_cut (fun _ => True) ?_
        refine o_re ?_
        refine o_fl rfl ?_
        refine q_nil (q_nx ?_)
        refine o_fl rfl ?_
        refine q_nil (q_nx ?_)
        refine o_or rfl ?_ ?_
        · refine s_call hE rfl Tryd.call16 (unwrap_c k (l.take (min l.length 100)) n (wrapD k (l.take (min l.length 100)) n p) t _ (hM.get 6 rfl) (hM.get 7 rfl) hl_k (wrapD_len (k := k) (l := (l.take (min l.length 100))) (n := n) (x := p) (by have hl_ax : p.length = 32 := hl_p; first | assumption | (simp; done))) hl_t (by have hl_0 : k.length = 32 := hl_k; have hl_1 : (l.take (min l.length 100)).length = min l.length 100 := (by rw [List.length_take]; omega); have hl_3d : (wrapD k (l.take (min l.length 100)) n p).length = 32 := (wrapD_len (k := k) (l := (l.take (min l.length 100))) (n := n) (x := p) (by have hl_ax : p.length = 32 := hl_p; first | assumption | (simp; done))); have hl_3t : t.length = 32 := hl_t; first | omega | assumption | (simp; done) | (simp; omega) | decide) (by have hl_0 : k.length = 32 := hl_k; have hl_1 : (l.take (min l.length 100)).length = min l.length 100 := (by rw [List.length_take]; omega); have hl_3d : (wrapD k (l.take (min l.length 100)) n p).length = 32 := (wrapD_len (k := k) (l := (l.take (min l.length 100))) (n := n) (x := p) (by have hl_ax : p.length = 32 := hl_p; first | assumption | (simp; done))); have hl_3t : t.length = 32 := hl_t; first | omega | assumption | (simp; done) | (simp; omega) | decide)) rfl ?_
          rintro e w16 ⟨rfl, hN⟩
          refine ⟨_, rfl, hN.sta0 _, ?_⟩; clear hE a; intro a hE
          replace hM : Mem _ _ w16 [_, _, _, _, _, _, _, _] := hM.call0 hN trivial; clear hN
          refine q_nil (q_nx ?_)
          refine o_re ?_
          refine o_fl rfl ?_
          refine s_move hE rfl rfl ?_; clear hE a; intro a hE
          refine s_extract hE rfl rfl rfl ?_; clear hE a; intro a hE
          refine s_extract hE rfl rfl rfl ?_; clear hE a; intro a hE
          refine q_nil (q_nx ?_)
          refine o_fl rfl ?_
          refine q_nil (q_nx ?_)
          refine o_weak (fun b => b = b9) (fun _ _ => trivial) ?_
          refine o_or rfl ?_ ?_
          · refine s_storeSeg 0 hE rfl rfl hM rfl sz23 ((bv_length _).trans (unwK_len (k := k) (l := (l.take (min l.length 100))) (n := n) (d := (wrapD k (l.take (min l.length 100)) n p)) (t := t) (by have hl_std : (wrapD k (l.take (min l.length 100)) n p).length = 32 := (wrapD_len (k := k) (l := (l.take (min l.length 100))) (n := n) (x := p) (by have hl_ax : p.length = 32 := hl_p; first | assumption | (simp; done))); first | assumption | (simp; done)))) (bv_one _) rfl ((bv_length _).trans (by first | (simp; done) | (simp [*]; done) | (simp; omega))) rfl (by intro X h; cases h; rfl) ?_; intro w17 hM'; clear hM; have hM := hM'; clear hM'
            simp only [List.set_cons_zero, List.set_cons_succ] at hM
            refine q_nil (q_nx ?_)
            refine o_cut (fun _ => True) ?_
            refine o_re ?_
            refine o_weak (fun _ => False) (fun _ _ => trivial) ?_
            refine o_leaf rfl rfl ?_
            refine s_assign hE rfl rfl ?_; clear hE a; intro a hE
            refine q_nil (q_ph (q_nil ?_))
            replace hE : Env a 110 [(3, _), (4, _), (5, _), (6, _), (7, _), (8, _), (10, _)] := hE.sel [3, 4, 5, 6, 7, 8, 10] rfl
            replace hM : Mem _ _ w17 [_, _, _, _, _, _, _, _] := hM.pick [0, 1, 2, 3, 4, 5, 6, 7] rfl
            refine q_then_n ⟨_, hE.sel [3, 4, 5, 6, 7, 8, 10] rfl, hM⟩
          trivial
        trivial
      trivial
    refine o_or rfl ?_ ?_
    · refine s_alloc [32] hE hM zero23 rfl rfl ?_; clear hE a; intro a b9 w14 hE hM'
      clear hM; have hM := hM'; clear hM'
      refine q_nil (q_nx ?_)
      refine o_re ?_
      refine o_fl rfl ?_
      refine q_nil (q_nx ?_)
      refine o_fl rfl ?_
      refine q_nil (q_nx ?_)
      refine o_or rfl ?_ ?_
      · refine s_call hE rfl Tryd.call15 (label10_c k l n _ hl_k) rfl ?_
        rintro e w15 ⟨rfl, hN⟩
        refine ⟨_, rfl, hN.sta0 _, ?_⟩; clear hE a; intro a hE
        replace hM : Mem _ _ w15 [_, _, _, _, _, _, _, _] := hM.call0 hN trivial; clear hN
        refine q_nil (q_nx ?_)
        refine o_cut (fun _ => True) ?_
        refine o_re ?_
        refine o_fl rfl ?_
        refine q_nil (q_nx ?_)
        refine o_fl rfl ?_
        refine q_nil (q_nx ?_)
        refine o_or rfl ?_ ?_
        · refine s_call hE rfl Tryd.call16 (unwrap_c k (l.take (min l.length 100)) n (wrapD k (l.take (min l.length 100)) n p) t _ (hM.get 6 rfl) (hM.get 7 rfl) hl_k (wrapD_len (k := k) (l := (l.take (min l.length 100))) (n := n) (x := p) (by have hl_ax : p.length = 32 := hl_p; first | assumption | (simp; done))) hl_t (by have hl_0 : k.length = 32 := hl_k; have hl_1 : (l.take (min l.length 100)).length = min l.length 100 := (by rw [List.length_take]; omega); have hl_3d : (wrapD k (l.take (min l.length 100)) n p).length = 32 := (wrapD_len (k := k) (l := (l.take (min l.length 100))) (n := n) (x := p) (by have hl_ax : p.length = 32 := hl_p; first | assumption | (simp; done))); have hl_3t : t.length = 32 := hl_t; first | omega | assumption | (simp; done) | (simp; omega) | decide) (by have hl_0 : k.length = 32 := hl_k; have hl_1 : (l.take (min l.length 100)).length = min l.length 100 := (by rw [List.length_take]; omega); have hl_3d : (wrapD k (l.take (min l.length 100)) n p).length = 32 := (wrapD_len (k := k) (l := (l.take (min l.length 100))) (n := n) (x := p) (by have hl_ax : p.length = 32 := hl_p; first | assumption | (simp; done))); have hl_3t : t.length = 32 := hl_t; first | omega | assumption | (simp; done) | (simp; omega) | decide)) rfl ?_
          rintro e w16 ⟨rfl, hN⟩
          refine ⟨_, rfl, hN.sta0 _, ?_⟩; clear hE a; intro a hE
          replace hM : Mem _ _ w16 [_, _, _, _, _, _, _, _] := hM.call0 hN trivial; clear hN
          refine q_nil (q_nx ?_)
          refine o_re ?_
          refine o_fl rfl ?_
          refine s_move hE rfl rfl ?_; clear hE a; intro a hE
          refine s_extract hE rfl rfl rfl ?_; clear hE a; intro a hE
          refine s_extract hE rfl rfl rfl ?_; clear hE a; intro a hE
          refine q_nil (q_nx ?_)
          refine o_fl rfl ?_
          refine q_nil (q_nx ?_)
          refine o_weak (fun b => b = b9) (fun _ _ => trivial) ?_
          refine o_or rfl ?_ ?_
          · refine s_storeSeg 0 hE rfl rfl hM rfl sz23 ((bv_length _).trans (unwK_len (k := k) (l := (l.take (min l.length 100))) (n := n) (d := (wrapD k (l.take (min l.length 100)) n p)) (t := t) (by have hl_std : (wrapD k (l.take (min l.length 100)) n p).length = 32 := (wrapD_len (k := k) (l := (l.take (min l.length 100))) (n := n) (x := p) (by have hl_ax : p.length = 32 := hl_p; first | assumption | (simp; done))); first | assumption | (simp; done)))) (bv_one _) rfl ((bv_length _).trans (by first | (simp; done) | (simp [*]; done) | (simp; omega))) rfl (by intro X h; cases h; rfl) ?_; intro w17 hM'; clear hM; have hM := hM'; clear hM'
            simp only [List.set_cons_zero, List.set_cons_succ] at hM
            refine q_nil (q_nx ?_)
            refine o_cut (fun _ => True) ?_
            refine o_re ?_
            refine o_weak (fun _ => False) (fun _ _ => trivial) ?_
            refine o_leaf rfl rfl ?_
            refine s_assign hE rfl rfl ?_; clear hE a; intro a hE
            refine q_nil (q_ph (q_nil ?_))
            replace hE : Env a 110 [(3, _), (4, _), (5, _), (6, _), (7, _), (8, _), (10, _)] := hE.sel [3, 4, 5, 6, 7, 8, 10] rfl
            replace hM : Mem _ _ w17 [_, _, _, _, _, _, _, _] := hM.pick [0, 1, 2, 3, 4, 5, 6, 7] rfl
            refine q_then_n ⟨_, hE.sel [3, 4, 5, 6, 7, 8, 10] rfl, hM⟩
          trivial
        trivial
      trivial
    trivial
  clear hE hM a; rintro a w18 ⟨b9, hE, hM⟩
  refine wp_seq_k (fun K4 hK4 => ?_)
  refine wp_seq_k (fun K5 hK5 => ?_)
  refine wp_plain [true, true, true, true, true, true, true, true] rfl rfl ?_
  refine s_move hE rfl rfl ?_; clear hE a; intro a hE
  refine s_bin hE rfl rfl bin_eql rfl ?_; clear hE a; intro a hE
  refine s_fieldAddr hE rfl fo29_1 rfl ?_; clear hE a; intro a hE
  refine s_loadN hE rfl (hM.get 1 rfl) row27 rfl (by intro X h; cases h) rfl ?_; clear hE a; intro a hE
  refine s_fieldAddr hE rfl fo29_1 rfl ?_; clear hE a; intro a hE
  refine s_loadN hE rfl (hM.get 2 rfl) row27 rfl (by intro X h; cases h) rfl ?_; clear hE a; intro a hE
  refine s_bin hE rfl rfl (eqa27 hl_t (tagB_len k (l.take (min l.length 100)) n (wrapD k (l.take (min l.length 100)) n p))).1 rfl ?_; clear hE a; intro a hE
  refine s_bin hE rfl rfl (bins_bool Tryd.underlying4).2 rfl ?_; clear hE a; intro a hE
  refine q_nil ?_
  replace hE : Env a 110 [(3, _), (4, _), (5, _), (6, _), (7, _), (8, _), (45, _)] := hE.sel [3, 4, 5, 6, 7, 8, 45] rfl
  refine hK5 _ _ ?_
  replace hE := hE.cast 45 rfl (show _ = Value.bool false from (congrArg Value.bool (by show (!(_ == _)) = false; rw [unwE_iff]; simp)))
  refine wp_cond_false (hE.eval rfl) ?_
  refine wp_skip ?_
  refine hK4 _ _ ?_
  refine wp_seq_k (fun K6 hK6 => ?_)
  refine wp_plain [true, false, false] rfl rfl ?_
  refine s_loadN hE rfl (hM.get 2 rfl) row29 rfl (by intro X h; cases h) rfl ?_; clear hE a; intro a hE
  replace hE := hE.cast 46 rfl (show _ = Value.agg ([bv (wrapD k (l.take (min l.length 100)) n p), bv (tagB k (l.take (min l.length 100)) n (wrapD k (l.take (min l.length 100)) n p))] : List (List Value)).flatten.toArray from (by first | (simp only [List.flatten_cons, List.flatten_nil, List.append_nil, List.append_assoc]; done) | rfl | simp))
  refine s_alloc [32, 32] hE hM zero29 rfl rfl ?_; clear hE a; intro a b11 w19 hE hM'
  clear hM; have hM := hM'; clear hM'
  refine s_storeSegs 0 2 (vss := [bv (wrapD k (l.take (min l.length 100)) n p), bv (tagB k (l.take (min l.length 100)) n (wrapD k (l.take (min l.length 100)) n p))]) hE rfl rfl hM rfl sz29 (by have hl_s0 : (wrapD k (l.take (min l.length 100)) n p).length = 32 := (wrapD_len (k := k) (l := (l.take (min l.length 100))) (n := n) (x := p) (by have hl_ax : p.length = 32 := hl_p; first | assumption | (simp; done))); have hl_s1 : (tagB k (l.take (min l.length 100)) n (wrapD k (l.take (min l.length 100)) n p)).length = 32 := (tagB_len k (l.take (min l.length 100)) n (wrapD k (l.take (min l.length 100)) n p));  simp only [List.map_cons, List.map_nil, bv_length, List.length_cons, List.length_nil, List.take_succ_cons, List.take_zero, List.drop_zero, List.drop_succ_cons, hl_s0, hl_s1]) (by decide) rfl (one_fl ⟨bv_one _, bv_one _, trivial⟩) rfl (by intro X h; cases h) ?_; intro w20 hM'; clear hM; have hM := hM'; clear hM'
  simp only [List.take_zero, List.take_succ_cons, List.drop_zero, List.drop_succ_cons, List.take_nil, List.drop_nil, List.nil_append, List.append_nil, List.cons_append] at hM
  refine q_nil ?_
  replace hE : Env a 110 [(3, _), (4, _), (5, _), (6, _), (7, _), (8, _), (11, _), (45, _)] := hE.sel [3, 4, 5, 6, 7, 8, 11, 45] rfl
  refine hK6 _ _ ?_
  refine wp_seq_k (fun K7 hK7 => ?_)
  refine wp_plain [true, true, true, false] rfl rfl ?_
  refine s_fieldAddr hE rfl fo29_0 rfl ?_; clear hE a; intro a hE
  refine s_loadN hE rfl (hM.get 4 rfl) row23 rfl (by intro X h; cases h) rfl ?_; clear hE a; intro a hE
  refine s_fieldAddr hE rfl fo29_0 rfl ?_; clear hE a; intro a hE
  refine s_storeSeg 0 hE rfl rfl hM rfl sz23 ((bv_length _).trans hl_d) (bv_one _) rfl ((bv_length _).trans (wrapD_len (k := k) (l := (l.take (min l.length 100))) (n := n) (x := p) (by have hl_ax : p.length = 32 := hl_p; first | assumption | (simp; done)))) rfl (by intro X h; cases h) ?_; intro w21 hM'; clear hM; have hM := hM'; clear hM'
  simp only [List.set_cons_zero, List.set_cons_succ] at hM
  refine q_nil ?_
  replace hE : Env a 110 [(3, _), (4, _), (5, _), (6, _), (7, _), (8, _), (11, _), (45, _)] := hE.sel [3, 4, 5, 6, 7, 8, 11, 45] rfl
  refine hK7 _ _ ?_
  refine wp_seq_j (fun a w' => ∃ (b12 : Nat), Env a 110 [(3, .pointer (some ⟨b3, 0, none⟩)), (4, .pointer (some ⟨b4, 0, none⟩)), (5, .pointer (some ⟨b5, 0, none⟩)), (6, .bool false), (7, .pointer (some ⟨b7, 0, none⟩)), (8, .pointer (some ⟨b8, 0, none⟩)), (11, .pointer (some ⟨b11, 0, none⟩)), (12, .pointer (some ⟨b12, 0, none⟩)), (13, .int .i64 ((unwE k (l.take (min l.length 100)) n d (tagB k (l.take (min l.length 100)) n (wrapD k (l.take (min l.length 100)) n p)) : Nat) : Int)), (45, .bool false)] ∧ Mem w [] w' [blk b12 [bv (unwK k (l.take (min l.length 100)) n d (tagB k (l.take (min l.length 100)) n (wrapD k (l.take (min l.length 100)) n p)))] [32] 23, blk b11 [bv d, bv (tagB k (l.take (min l.length 100)) n (wrapD k (l.take (min l.length 100)) n p))] [32, 32] 29, blk b9 [bv (unwK k (l.take (min l.length 100)) n (wrapD k (l.take (min l.length 100)) n p) t)] [32] 23, blk b8 [bv (wrapD k (l.take (min l.length 100)) n p), bv t] [32, 32] 29, blk b7 [bv (wrapD k (l.take (min l.length 100)) n p), bv (tagB k (l.take (min l.length 100)) n (wrapD k (l.take (min l.length 100)) n p))] [32, 32] 29, blk b5 [bv d, bv t] [32, 32] 29, blk b4 [bv p] [32] 23, blk b3 [bv k, [.string (str l)], [.int .u64 ((n : Nat) : Int)]] [32, 1, 1] 26, glb 1, tabP]) ?_ ?_
  · refine wp_treeM hM (by kernel_rfl) (fun _ => True) (fun _ => True) (.re [(0, true), (4, true), (1, true), (2, true), (5, true), (6, true), (3, false), (7, false), (8, true), (9, true), (10, true), (11, false), (12, false), (13, true)] (.fl 2 (.weak (.fl 4 (.or 3 (.re [(7, false), (8, true), (9, true), (10, true), (11, false), (12, false), (13, true)] (.fl 0 (.fl 0 (.or 7 (.re [(8, true), (9, true), (10, true), (11, false), (12, false), (13, true)] (.fl 3 (.fl 0 (.or 11 (.re [(12, false), (13, true)] (.fl 0 (.fl 0 (.or 12 (.cut (.re [(13, true)] (.weak (.leaf 1)))) (.stop))))) (.stop))))) (.or 11 (.cut (.re [(7, false), (8, true), (9, true), (10, true), (12, false), (13, true)] (.fl 0 (.fl 0 (.or 7 (.re [(8, true), (9, true), (10, true), (12, false), (13, true)] (.fl 3 (.fl 0 (.weak (.or 12 (.cut (.re [(13, true)] (.weak (.leaf 1)))) (.stop)))))) (.stop)))))) (.stop)))))) (.or 11 (.re [(3, false), (7, false), (8, true), (9, true), (10, true), (12, false), (13, true)] (.fl 0 (.fl 0 (.or 3 (.cut (.re [(7, false), (8, true), (9, true), (10, true), (12, false), (13, true)] (.fl 0 (.fl 0 (.or 7 (.re [(8, true), (9, true), (10, true), (12, false), (13, true)] (.fl 3 (.fl 0 (.weak (.or 12 (.cut (.re [(13, true)] (.weak (.leaf 1)))) (.stop)))))) (.stop)))))) (.stop))))) (.stop))))))) [(0, true), (4, true), (1, true), (2, true), (5, true), (6, true), (3, false), (7, false), (8, true), (9, true), (10, true), (11, false), (12, false), (13, true)] [(0, [(1, 0), (7, 1), (8, 7), (9, 8), (10, 8), (12, 0), (13, 0)]), (1, [(7, 1), (8, 7), (9, 8), (10, 8), (12, 1), (13, 1)]), (2, [(3, 2), (7, 3), (8, 7), (9, 8), (10, 8), (12, 2), (13, 2)]), (3, [(7, 3), (8, 7), (9, 8), (10, 8), (12, 3), (13, 3)]), (4, [(5, 4), (7, 5), (8, 7), (9, 8), (10, 8), (12, 4), (13, 4)]), (5, [(7, 5), (8, 7), (9, 8), (10, 8), (12, 5), (13, 5)]), (6, [(7, 6), (8, 7), (9, 8), (10, 8), (12, 6), (13, 6)]), (7, [(8, 7), (9, 8), (10, 8), (12, 7), (13, 7)]), (9, [(12, 9), (13, 9)]), (10, [(13, 10)]), (11, [(12, 11), (13, 11)]), (12, [(13, 12)])] (by kernel_rfl) ?_
    intro w22 hM' hww22; clear hM; have hM := hM'; clear hM'
    refine o_re ?_
    refine o_fl rfl ?_
    refine s_fieldAddr hE rfl fo26_0 rfl ?_; clear hE a; intro a hE
    refine s_fieldAddr hE rfl fo26_2 rfl ?_; clear hE a; intro a hE
    refine q_nil (q_nx ?_)
    refine o_weak (fun b => b ≠ b3 ∧ b ≠ b11) (fun _ _ => trivial) ?_
    refine o_fl rfl ?_
    refine s_loadN hE rfl (hM.get 6 rfl) row23 rfl (by intro X h; cases h; simp) rfl ?_; clear hE a; intro a hE
    refine s_loadN hE rfl (hM.get 6 rfl) row26 rfl (by intro X h; cases h; simp) rfl ?_; clear hE a; intro a hE
    replace hE := hE.cast 53 rfl (show _ = Value.agg ([bv k, [.string (str l)], [.int .u64 ((n : Nat) : Int)]] : List (List Value)).flatten.toArray from (by first | (simp only [List.flatten_cons, List.flatten_nil, List.append_nil, List.append_assoc]; done) | rfl | simp))
    refine s_load1 hE rfl (hM.get 6 rfl) rfl one24 (by intro X h; cases h; simp) rfl ?_; clear hE a; intro a hE
    refine s_loadN hE rfl (hM.get 0 rfl) row29 rfl (by intro X h; cases h; simp) rfl ?_; clear hE a; intro a hE
    replace hE := hE.cast 57 rfl (show _ = Value.agg ([bv d, bv (tagB k (l.take (min l.length 100)) n (wrapD k (l.take (min l.length 100)) n p))] : List (List Value)).flatten.toArray from (by first | (simp only [List.flatten_cons, List.flatten_nil, List.append_nil, List.append_assoc]; done) | rfl | simp))
    refine q_nil (q_nx ?_)
    refine o_or rfl ?_ ?_
    · refine s_call hE rfl Tryd.call15 (label10_c k l n _ hl_k) rfl ?_
      rintro e w23 ⟨rfl, hN⟩
      refine ⟨_, rfl, hN.sta0 _, ?_⟩; clear hE a; intro a hE
      replace hM : Mem _ _ w23 [_, _, _, _, _, _, _, _, _] := hM.call0 hN trivial; clear hN
      refine q_nil (q_nx ?_)
      refine o_re ?_
      refine o_fl rfl ?_
      refine q_nil (q_nx ?_)
      refine o_fl rfl ?_
      refine q_nil (q_nx ?_)
      refine o_or rfl ?_ ?_
      · refine s_call hE rfl Tryd.call16 (unwrap_c k (l.take (min l.length 100)) n d (tagB k (l.take (min l.length 100)) n (wrapD k (l.take (min l.length 100)) n p)) _ (hM.get 7 rfl) (hM.get 8 rfl) hl_k hl_d (tagB_len k (l.take (min l.length 100)) n (wrapD k (l.take (min l.length 100)) n p)) (by have hl_0 : k.length = 32 := hl_k; have hl_1 : (l.take (min l.length 100)).length = min l.length 100 := (by rw [List.length_take]; omega); have hl_3d : d.length = 32 := hl_d; have hl_3t : (tagB k (l.take (min l.length 100)) n (wrapD k (l.take (min l.length 100)) n p)).length = 32 := (tagB_len k (l.take (min l.length 100)) n (wrapD k (l.take (min l.length 100)) n p)); first | omega | assumption | (simp; done) | (simp; omega) | decide) (by have hl_0 : k.length = 32 := hl_k; have hl_1 : (l.take (min l.length 100)).length = min l.length 100 := (by rw [List.length_take]; omega); have hl_3d : d.length = 32 := hl_d; have hl_3t : (tagB k (l.take (min l.length 100)) n (wrapD k (l.take (min l.length 100)) n p)).length = 32 := (tagB_len k (l.take (min l.length 100)) n (wrapD k (l.take (min l.length 100)) n p)); first | omega | assumption | (simp; done) | (simp; omega) | decide)) rfl ?_
        rintro e w24 ⟨rfl, hN⟩
        refine ⟨_, rfl, hN.sta0 _, ?_⟩; clear hE a; intro a hE
        replace hM : Mem _ _ w24 [_, _, _, _, _, _, _, _, _] := hM.call0 hN trivial; clear hN
        refine q_nil (q_nx ?_)
        refine o_re ?_
        refine o_fl rfl ?_
        refine s_move hE rfl rfl ?_; clear hE a; intro a hE
        refine s_extract hE rfl rfl rfl ?_; clear hE a; intro a hE
        refine s_extract hE rfl rfl rfl ?_; clear hE a; intro a hE
        refine q_nil (q_nx ?_)
        refine o_fl rfl ?_
        refine q_nil (q_nx ?_)
        refine o_or rfl ?_ ?_
        · refine s_alloc [32] hE hM zero23 rfl rfl ?_; clear hE a; intro a b12 w25 hE hM'
          clear hM; have hM := hM'; clear hM'
          refine q_nil (q_nx ?_)
          refine o_re ?_
          refine o_fl rfl ?_
          refine q_nil (q_nx ?_)
          refine o_fl rfl ?_
          refine q_nil (q_nx ?_)
          refine o_or rfl ?_ ?_
          · refine s_storeSeg 0 hE rfl rfl hM rfl sz23 ((bv_length _).trans (unwK_len (k := k) (l := (l.take (min l.length 100))) (n := n) (d := d) (t := (tagB k (l.take (min l.length 100)) n (wrapD k (l.take (min l.length 100)) n p))) (by have hl_std : d.length = 32 := hl_d; first | assumption | (simp; done)))) (bv_one _) rfl ((bv_length _).trans (by first | (simp; done) | (simp [*]; done) | (simp; omega))) rfl (by intro X h; cases h; exact ⟨fun e => ((apart_of_get hM.apart (i := 0) (j := 7) rfl rfl (by decide)).1 _ (.head _)).1 (by rw [e]; exact .head _), fun e => ((apart_of_get hM.apart (i := 0) (j := 1) rfl rfl (by decide)).1 _ (.head _)).1 (by rw [e]; exact .head _)⟩) ?_; intro w26 hM'; clear hM; have hM := hM'; clear hM'
            simp only [List.set_cons_zero, List.set_cons_succ] at hM
            refine q_nil (q_nx ?_)
            refine o_cut (fun _ => True) ?_
            refine o_re ?_
            refine o_weak (fun _ => False) (fun _ _ => trivial) ?_
            refine o_leaf rfl rfl ?_
            refine s_assign hE rfl rfl ?_; clear hE a; intro a hE
            refine q_nil (q_ph (q_nil ?_))
            replace hE : Env a 110 [(3, _), (4, _), (5, _), (6, _), (7, _), (8, _), (11, _), (12, _), (13, _), (45, _)] := hE.sel [3, 4, 5, 6, 7, 8, 11, 12, 13, 45] rfl
            replace hM : Mem _ _ w26 [_, _, _, _, _, _, _, _, _, _] := hM.pick [0, 1, 2, 3, 4, 5, 6, 7, 8, 9] rfl
            refine q_then_n ⟨_, hE.sel [3, 4, 5, 6, 7, 8, 11, 12, 13, 45] rfl, hM⟩
          trivial
        trivial
      refine o_or rfl ?_ ?_
      · refine s_alloc [32] hE hM zero23 rfl rfl ?_; clear hE a; intro a b12 w24 hE hM'
        clear hM; have hM := hM'; clear hM'
        refine q_nil (q_nx ?_)
        refine o_cut (fun _ => True) ?_
        refine o_re ?_
        refine o_fl rfl ?_
        refine q_nil (q_nx ?_)
        refine o_fl rfl ?_
        refine q_nil (q_nx ?_)
        refine o_or rfl ?_ ?_
        · refine s_call hE rfl Tryd.call16 (unwrap_c k (l.take (min l.length 100)) n d (tagB k (l.take (min l.length 100)) n (wrapD k (l.take (min l.length 100)) n p)) _ (hM.get 8 rfl) (hM.get 9 rfl) hl_k hl_d (tagB_len k (l.take (min l.length 100)) n (wrapD k (l.take (min l.length 100)) n p)) (by have hl_0 : k.length = 32 := hl_k; have hl_1 : (l.take (min l.length 100)).length = min l.length 100 := (by rw [List.length_take]; omega); have hl_3d : d.length = 32 := hl_d; have hl_3t : (tagB k (l.take (min l.length 100)) n (wrapD k (l.take (min l.length 100)) n p)).length = 32 := (tagB_len k (l.take (min l.length 100)) n (wrapD k (l.take (min l.length 100)) n p)); first | omega | assumption | (simp; done) | (simp; omega) | decide) (by have hl_0 : k.length = 32 := hl_k; have hl_1 : (l.take (min l.length 100)).length = min l.length 100 := (by rw [List.length_take]; omega); have hl_3d : d.length = 32 := hl_d; have hl_3t : (tagB k (l.take (min l.length 100)) n (wrapD k (l.take (min l.length 100)) n p)).length = 32 := (tagB_len k (l.take (min l.length 100)) n (wrapD k (l.take (min l.length 100)) n p)); first | omega | assumption | (simp; done) | (simp; omega) | decide)) rfl ?_
          rintro e w25 ⟨rfl, hN⟩
          refine ⟨_, rfl, hN.sta0 _, ?_⟩; clear hE a; intro a hE
          replace hM : Mem _ _ w25 [_, _, _, _, _, _, _, _, _, _] := hM.call0 hN trivial; clear hN
          refine q_nil (q_nx ?_)
          refine o_re ?_
          refine o_fl rfl ?_
          refine s_move hE rfl rfl ?_; clear hE a; intro a hE
          refine s_extract hE rfl rfl rfl ?_; clear hE a; intro a hE
          refine s_extract hE rfl rfl rfl ?_; clear hE a; intro a hE
          refine q_nil (q_nx ?_)
          refine o_fl rfl ?_
          refine q_nil (q_nx ?_)
          refine o_weak (fun b => b = b12) (fun _ _ => trivial) ?_
          refine o_or rfl ?_ ?_
          · refine s_storeSeg 0 hE rfl rfl hM rfl sz23 ((bv_length _).trans (unwK_len (k := k) (l := (l.take (min l.length 100))) (n := n) (d := d) (t := (tagB k (l.take (min l.length 100)) n (wrapD k (l.take (min l.length 100)) n p))) (by have hl_std : d.length = 32 := hl_d; first | assumption | (simp; done)))) (bv_one _) rfl ((bv_length _).trans (by first | (simp; done) | (simp [*]; done) | (simp; omega))) rfl (by intro X h; cases h; rfl) ?_; intro w26 hM'; clear hM; have hM := hM'; clear hM'
            simp only [List.set_cons_zero, List.set_cons_succ] at hM
            refine q_nil (q_nx ?_)
            refine o_cut (fun _ => True) ?_
            refine o_re ?_
            refine o_weak (fun _ => False) (fun _ _ => trivial) ?_
            refine o_leaf rfl rfl ?_
            refine s_assign hE rfl rfl ?_; clear hE a; intro a hE
            refine q_nil (q_ph (q_nil ?_))
            replace hE : Env a 110 [(3, _), (4, _), (5, _), (6, _), (7, _), (8, _), (11, _), (12, _), (13, _), (45, _)] := hE.sel [3, 4, 5, 6, 7, 8, 11, 12, 13, 45] rfl
            replace hM : Mem _ _ w26 [_, _, _, _, _, _, _, _, _, _] := hM.pick [0, 1, 2, 3, 4, 5, 6, 7, 8, 9] rfl
            refine q_then_n ⟨_, hE.sel [3, 4, 5, 6, 7, 8, 11, 12, 13, 45] rfl, hM⟩
          trivial
        trivial
      trivial
    refine o_or rfl ?_ ?_
    · refine s_alloc [32] hE hM zero23 rfl rfl ?_; clear hE a; intro a b12 w23 hE hM'
      clear hM; have hM := hM'; clear hM'
      refine q_nil (q_nx ?_)
      refine o_re ?_
      refine o_fl rfl ?_
      refine q_nil (q_nx ?_)
      refine o_fl rfl ?_
      refine q_nil (q_nx ?_)
      refine o_or rfl ?_ ?_
      · refine s_call hE rfl Tryd.call15 (label10_c k l n _ hl_k) rfl ?_
        rintro e w24 ⟨rfl, hN⟩
        refine ⟨_, rfl, hN.sta0 _, ?_⟩; clear hE a; intro a hE
        replace hM : Mem _ _ w24 [_, _, _, _, _, _, _, _, _, _] := hM.call0 hN trivial; clear hN
        refine q_nil (q_nx ?_)
        refine o_cut (fun _ => True) ?_
        refine o_re ?_
        refine o_fl rfl ?_
        refine q_nil (q_nx ?_)
        refine o_fl rfl ?_
        refine q_nil (q_nx ?_)
        refine o_or rfl ?_ ?_
        · refine s_call hE rfl Tryd.call16 (unwrap_c k (l.take (min l.length 100)) n d (tagB k (l.take (min l.length 100)) n (wrapD k (l.take (min l.length 100)) n p)) _ (hM.get 8 rfl) (hM.get 9 rfl) hl_k hl_d (tagB_len k (l.take (min l.length 100)) n (wrapD k (l.take (min l.length 100)) n p)) (by have hl_0 : k.length = 32 := hl_k; have hl_1 : (l.take (min l.length 100)).length = min l.length 100 := (by rw [List.length_take]; omega); have hl_3d : d.length = 32 := hl_d; have hl_3t : (tagB k (l.take (min l.length 100)) n (wrapD k (l.take (min l.length 100)) n p)).length = 32 := (tagB_len k (l.take (min l.length 100)) n (wrapD k (l.take (min l.length 100)) n p)); first | omega | assumption | (simp; done) | (simp; omega) | decide) (by have hl_0 : k.length = 32 := hl_k; have hl_1 : (l.take (min l.length 100)).length = min l.length 100 := (by rw [List.length_take]; omega); have hl_3d : d.length = 32 := hl_d; have hl_3t : (tagB k (l.take (min l.length 100)) n (wrapD k (l.take (min l.length 100)) n p)).length = 32 := (tagB_len k (l.take (min l.length 100)) n (wrapD k (l.take (min l.length 100)) n p)); first | omega | assumption | (simp; done) | (simp; omega) | decide)) rfl ?_
          rintro e w25 ⟨rfl, hN⟩
          refine ⟨_, rfl, hN.sta0 _, ?_⟩; clear hE a; intro a hE
          replace hM : Mem _ _ w25 [_, _, _, _, _, _, _, _, _, _] := hM.call0 hN trivial; clear hN
          refine q_nil (q_nx ?_)
          refine o_re ?_
          refine o_fl rfl ?_
          refine s_move hE rfl rfl ?_; clear hE a; intro a hE
          refine s_extract hE rfl rfl rfl ?_; clear hE a; intro a hE
          refine s_extract hE rfl rfl rfl ?_; clear hE a; intro a hE
          refine q_nil (q_nx ?_)
          refine o_fl rfl ?_
          refine q_nil (q_nx ?_)
          refine o_weak (fun b => b = b12) (fun _ _ => trivial) ?_
          refine o_or rfl ?_ ?_
          · refine s_storeSeg 0 hE rfl rfl hM rfl sz23 ((bv_length _).trans (unwK_len (k := k) (l := (l.take (min l.length 100))) (n := n) (d := d) (t := (tagB k (l.take (min l.length 100)) n (wrapD k (l.take (min l.length 100)) n p))) (by have hl_std : d.length = 32 := hl_d; first | assumption | (simp; done)))) (bv_one _) rfl ((bv_length _).trans (by first | (simp; done) | (simp [*]; done) | (simp; omega))) rfl (by intro X h; cases h; rfl) ?_; intro w26 hM'; clear hM; have hM := hM'; clear hM'
            simp only [List.set_cons_zero, List.set_cons_succ] at hM
            refine q_nil (q_nx ?_)
            refine o_cut (fun _ => True) ?_
            refine o_re ?_
            refine o_weak (fun _ => False) (fun _ _ => trivial) ?_
            refine o_leaf rfl rfl ?_
            refine s_assign hE rfl rfl ?_; clear hE a; intro a hE
            refine q_nil (q_ph (q_nil ?_))
            replace hE : Env a 110 [(3, _), (4, _), (5, _), (6, _), (7, _), (8, _), (11, _), (12, _), (13, _), (45, _)] := hE.sel [3, 4, 5, 6, 7, 8, 11, 12, 13, 45] rfl
            replace hM : Mem _ _ w26 [_, _, _, _, _, _, _, _, _, _] := hM.pick [0, 1, 2, 3, 4, 5, 6, 7, 8, 9] rfl
            refine q_then_n ⟨_, hE.sel [3, 4, 5, 6, 7, 8, 11, 12, 13, 45] rfl, hM⟩
          trivial
        trivial
      trivial
    trivial
  clear hE hM a; rintro a w27 ⟨b12, hE, hM⟩
  refine wp_seq_k (fun K8 hK8 => ?_)
  refine wp_seq_k (fun K9 hK9 => ?_)
  refine wp_plain [true, true, true, true, true] rfl rfl ?_
  refine s_fieldAddr hE rfl fo29_0 rfl ?_; clear hE a; intro a hE
  refine s_loadN hE rfl (hM.get 1 rfl) row23 rfl (by intro X h; cases h) rfl ?_; clear hE a; intro a hE
  refine s_fieldAddr hE rfl fo29_0 rfl ?_; clear hE a; intro a hE
  refine s_loadN hE rfl (hM.get 4 rfl) row23 rfl (by intro X h; cases h) rfl ?_; clear hE a; intro a hE
  refine s_bin hE rfl rfl (eqa23 hl_d (wrapD_len (k := k) (l := (l.take (min l.length 100))) (n := n) (x := p) (by have hl_ax : p.length = 32 := hl_p; first | assumption | (simp; done)))).1 rfl ?_; clear hE a; intro a hE
  refine q_nil ?_
  replace hE : Env a 110 [(3, _), (4, _), (5, _), (6, _), (7, _), (8, _), (11, _), (12, _), (13, _), (45, _), (65, _)] := hE.sel [3, 4, 5, 6, 7, 8, 11, 12, 13, 45, 65] rfl
  refine hK9 _ _ ?_
  refine hE.split 65 rfl (fun hb65 hE' => ?_) (fun hb65 hE' => ?_)
  · replace hE := hE'; clear hE'
    replace hb65 := of_decide_eq_true hb65
    have hok := unw_ok (k := k) (l := l.take (min l.length 100)) (n := n) hl_p
    have hok1 : unwK k (l.take (min l.length 100)) n d (tagB k (l.take (min l.length 100)) n (wrapD k (l.take (min l.length 100)) n p)) = p := by rw [hb65]; exact hok.1
    have hok2 : unwE k (l.take (min l.length 100)) n d (tagB k (l.take (min l.length 100)) n (wrapD k (l.take (min l.length 100)) n p)) = 0 := by rw [hb65]; exact hok.2
    refine wp_cond_true (hE.eval rfl) ?_
    refine wp_seq_k (fun K10 hK10 => ?_)
    refine wp_plain [true, true, true, true, true, true, true, true, false, true, true] rfl rfl ?_
    refine s_move hE rfl rfl ?_; clear hE a; intro a hE
    refine s_bin hE rfl rfl bin_eql rfl ?_; clear hE a; intro a hE
    refine s_move hE rfl rfl ?_; clear hE a; intro a hE
    replace hE := hE.cast 68 rfl (show _ = Value.bool true from (congrArg Value.bool (by first | (rw [hok2]; rfl) | (rw [hok1]; simp; done) | (with_reducible rfl))))
    refine g_yes hE rfl rfl ?_
    refine s_loadN hE rfl (hM.get 0 rfl) row23 rfl (by intro X h; cases h) rfl ?_; clear hE a; intro a hE
    refine g_yes hE rfl rfl ?_
    refine s_loadN hE rfl (hM.get 6 rfl) row23 rfl (by intro X h; cases h) rfl ?_; clear hE a; intro a hE
    refine g_yes hE rfl rfl ?_
    refine s_bin hE rfl rfl (eqa23 (unwK_len (k := k) (l := (l.take (min l.length 100))) (n := n) (d := d) (t := (tagB k (l.take (min l.length 100)) n (wrapD k (l.take (min l.length 100)) n p))) (by have hl_std : d.length = 32 := hl_d; first | assumption | (simp; done))) hl_p).1 rfl ?_; clear hE a; intro a hE
    refine s_pickt hE rfl rfl rfl ?_; clear hE a; intro a hE
    refine s_move hE rfl rfl ?_; clear hE a; intro a hE
    replace hE := hE.cast 73 rfl (show _ = Value.bool true from (congrArg Value.bool (by first | (rw [hok2]; rfl) | (rw [hok1]; simp; done) | (with_reducible rfl))))
    refine g_yes hE rfl rfl ?_
    refine s_call hE rfl Tryd.call17 (works10_c  _ (hM.get 8 rfl) (hM.get 9 rfl)) rfl ?_
    rintro e w28 ⟨rfl, hN⟩
    refine ⟨_, rfl, trivial, ?_⟩; clear hE a; intro a hE
    replace hM : Mem _ _ w28 [_, _, _, _, _, _, _, _, _, _] := hM.call0 hN trivial; clear hN
    refine s_pickt hE rfl rfl rfl ?_; clear hE a; intro a hE
    refine s_assign hE rfl rfl ?_; clear hE a; intro a hE
    refine q_nil ?_
    replace hE : Env a 110 [(3, _), (4, _), (5, _), (6, _), (7, _), (8, _), (11, _), (12, _), (13, _), (45, _), (65, _)] := hE.sel [3, 4, 5, 6, 7, 8, 11, 12, 13, 45, 65] rfl
    refine hK10 _ _ ?_
    refine wp_ret ?_
    refine q_then_r ?_
    refine f_ret1 hE rfl rfl ?_
    exact ⟨(by first | rfl | (simp; done)), hM.pick [] rfl⟩
  · replace hE := hE'; clear hE'
    replace hb65 := of_decide_eq_false hb65
    refine wp_cond_false (hE.eval rfl) ?_
    refine wp_skip ?_
    refine hK8 _ _ ?_
    refine wp_seq_k (fun K10 hK10 => ?_)
    refine wp_seq_k (fun K11 hK11 => ?_)
    refine wp_plain [true, true] rfl rfl ?_
    refine s_move hE rfl rfl ?_; clear hE a; intro a hE
    refine s_bin hE rfl rfl bin_eql rfl ?_; clear hE a; intro a hE
    refine q_nil ?_
    replace hE : Env a 110 [(3, _), (4, _), (5, _), (6, _), (7, _), (8, _), (11, _), (12, _), (13, _), (45, _), (65, _), (77, _)] := hE.sel [3, 4, 5, 6, 7, 8, 11, 12, 13, 45, 65, 77] rfl
    refine hK11 _ _ ?_
    refine hE.split 77 rfl (fun hb77 hE' => ?_) (fun hb77 hE' => ?_)
    · replace hE := hE'; clear hE'
      replace hb77 := of_decide_eq_true hb77
      replace hb77 : (unwE k (l.take (min l.length 100)) n d (tagB k (l.take (min l.length 100)) n (wrapD k (l.take (min l.length 100)) n p))) = 0 := by omega
      have hz0 : unwE k (l.take (min l.length 100)) n d (tagB k (l.take (min l.length 100)) n (wrapD k (l.take (min l.length 100)) n p)) = 0 := by omega
      have htt := unwE_zero hz0
      refine wp_cond_true (hE.eval rfl) ?_
      refine wp_seq_j (fun a w' => ∃ (b14 : Nat), Env a 110 [(3, .pointer (some ⟨b3, 0, none⟩)), (4, .pointer (some ⟨b4, 0, none⟩)), (5, .pointer (some ⟨b5, 0, none⟩)), (6, .bool false), (7, .pointer (some ⟨b7, 0, none⟩)), (8, .pointer (some ⟨b8, 0, none⟩)), (11, .pointer (some ⟨b11, 0, none⟩)), (12, .pointer (some ⟨b12, 0, none⟩)), (13, .int .i64 ((unwE k (l.take (min l.length 100)) n d (tagB k (l.take (min l.length 100)) n (wrapD k (l.take (min l.length 100)) n p)) : Nat) : Int)), (14, .pointer (some ⟨b14, 0, none⟩)), (45, .bool false), (65, .bool false), (77, .bool true)] ∧ Mem w [] w' [blk b14 [bv (subW k (((l.take (min l.length 100)) ++ [32, 115, 101, 97, 108, 32]) ++ (decW n)))] [32] 23, blk b12 [bv (unwK k (l.take (min l.length 100)) n d (tagB k (l.take (min l.length 100)) n (wrapD k (l.take (min l.length 100)) n p)))] [32] 23, blk b11 [bv d, bv (tagB k (l.take (min l.length 100)) n (wrapD k (l.take (min l.length 100)) n p))] [32, 32] 29, blk b9 [bv (unwK k (l.take (min l.length 100)) n (wrapD k (l.take (min l.length 100)) n p) t)] [32] 23, blk b8 [bv (wrapD k (l.take (min l.length 100)) n p), bv t] [32, 32] 29, blk b7 [bv (wrapD k (l.take (min l.length 100)) n p), bv (tagB k (l.take (min l.length 100)) n (wrapD k (l.take (min l.length 100)) n p))] [32, 32] 29, blk b5 [bv d, bv t] [32, 32] 29, blk b4 [bv p] [32] 23, blk b3 [bv k, [.string (str l)], [.int .u64 ((n : Nat) : Int)]] [32, 1, 1] 26, glb 1, tabP]) ?_ ?_
      · refine wp_treeM hM (by kernel_rfl) (fun _ => True) (fun _ => True) (.re [(0, true), (5, true), (1, true), (2, true), (6, true), (3, false), (4, true), (7, false), (8, true), (9, false), (10, false), (11, false)] (.fl 2 (.weak (.fl 3 (.or 3 (.re [(4, true), (7, false), (8, true), (9, false), (10, false), (11, false)] (.fl 1 (.fl 0 (.or 7 (.re [(8, true), (9, false), (10, false), (11, false)] (.fl 1 (.fl 0 (.or 9 (.re [(10, false), (11, false)] (.fl 0 (.fl 0 (.or 10 (.cut (.re [(11, false)] (.fl 0 (.fl 0 (.weak (.or 11 (.cut (.re [] (.weak (.leaf 0)))) (.stop))))))) (.stop))))) (.or 10 (.cut (.re [(9, false), (11, false)] (.fl 0 (.fl 0 (.or 9 (.re [(11, false)] (.fl 0 (.fl 0 (.weak (.or 11 (.cut (.re [] (.weak (.leaf 0)))) (.stop)))))) (.stop)))))) (.stop)))))) (.or 10 (.re [(7, false), (8, true), (9, false), (11, false)] (.fl 0 (.fl 0 (.or 7 (.re [(8, true), (9, false), (11, false)] (.fl 1 (.fl 0 (.or 9 (.cut (.re [(11, false)] (.fl 0 (.fl 0 (.weak (.or 11 (.cut (.re [] (.weak (.leaf 0)))) (.stop))))))) (.stop))))) (.stop))))) (.stop)))))) (.or 10 (.re [(3, false), (4, true), (7, false), (8, true), (9, false), (11, false)] (.fl 0 (.fl 0 (.or 3 (.re [(4, true), (7, false), (8, true), (9, false), (11, false)] (.fl 1 (.fl 0 (.or 7 (.re [(8, true), (9, false), (11, false)] (.fl 1 (.fl 0 (.or 9 (.cut (.re [(11, false)] (.fl 0 (.fl 0 (.weak (.or 11 (.cut (.re [] (.weak (.leaf 0)))) (.stop))))))) (.stop))))) (.stop))))) (.stop))))) (.stop))))))) [(0, true), (5, true), (1, true), (2, true), (6, true), (3, false), (4, true), (7, false), (8, true), (9, false), (10, false), (11, false)] [(0, [(1, 0), (9, 1), (11, 0)]), (1, [(9, 1), (11, 1)]), (2, [(3, 2), (4, 3), (7, 3), (8, 4), (9, 8), (11, 2)]), (3, [(4, 3), (7, 3), (8, 4), (9, 8), (11, 3)]), (4, [(8, 4), (9, 8), (11, 4)]), (5, [(6, 5), (7, 6), (8, 7), (9, 8), (11, 5)]), (6, [(7, 6), (8, 7), (9, 8), (11, 6)]), (7, [(8, 7), (9, 7), (11, 7)]), (8, [(9, 8), (11, 8)]), (9, [(11, 9)]), (10, [(11, 10)]), (11, [])] (by kernel_rfl) ?_
        intro w28 hM' hww28; clear hM; have hM := hM'; clear hM'
        refine o_re ?_
        refine o_fl rfl ?_
        refine s_fieldAddr hE rfl fo26_0 rfl ?_; clear hE a; intro a hE
        refine s_fieldAddr hE rfl fo26_2 rfl ?_; clear hE a; intro a hE
        refine q_nil (q_nx ?_)
        refine o_weak (fun _ => False) (fun _ _ => trivial) ?_
        refine o_fl rfl ?_
        refine s_loadN hE rfl (hM.get 7 rfl) row23 rfl (by intro X h; cases h; simp) rfl ?_; clear hE a; intro a hE
        refine s_loadN hE rfl (hM.get 7 rfl) row26 rfl (by intro X h; cases h; simp) rfl ?_; clear hE a; intro a hE
        replace hE := hE.cast 80 rfl (show _ = Value.agg ([bv k, [.string (str l)], [.int .u64 ((n : Nat) : Int)]] : List (List Value)).flatten.toArray from (by first | (simp only [List.flatten_cons, List.flatten_nil, List.append_nil, List.append_assoc]; done) | rfl | simp))
        refine s_load1 hE rfl (hM.get 7 rfl) rfl one24 (by intro X h; cases h; simp) rfl ?_; clear hE a; intro a hE
        refine q_nil (q_nx ?_)
        refine o_or rfl ?_ ?_
        · refine s_call hE rfl Tryd.call15 (label10_c k l n _ hl_k) rfl ?_
          rintro e w29 ⟨rfl, hN⟩
          refine ⟨_, rfl, hN.sta0 _, ?_⟩; clear hE a; intro a hE
          replace hM : Mem _ _ w29 [_, _, _, _, _, _, _, _, _, _] := hM.call0 hN trivial; clear hN
          refine q_nil (q_nx ?_)
          refine o_re ?_
          refine o_fl rfl ?_
          refine s_bin hE rfl rfl (show Bin _ _ _ (.string (str (l.take (min l.length 100)))) (.string (str [32, 115, 101, 97, 108, 32])) (.string (str ((l.take (min l.length 100)) ++ [32, 115, 101, 97, 108, 32]))) from bin_strs (by have hl_x : (l.take (min l.length 100)).length = min l.length 100 := (by rw [List.length_take]; omega); first | omega | (simp; done) | (simp; omega))) rfl ?_; clear hE a; intro a hE
          refine q_nil (q_nx ?_)
          refine o_fl rfl ?_
          refine q_nil (q_nx ?_)
          refine o_or rfl ?_ ?_
          · refine s_call hE rfl Tryd.call19 (ldec_c n _ (by first | omega | assumption | (simp; done) | (simp; omega) | decide)) rfl ?_
            rintro e w30 ⟨rfl, hN⟩
            refine ⟨_, rfl, hN.sta0 _, ?_⟩; clear hE a; intro a hE
            replace hM : Mem _ _ w30 [_, _, _, _, _, _, _, _, _, _] := hM.call0 hN trivial; clear hN
            refine q_nil (q_nx ?_)
            refine o_re ?_
            refine o_fl rfl ?_
            refine s_bin hE rfl rfl (show Bin _ _ _ (.string (str ((l.take (min l.length 100)) ++ [32, 115, 101, 97, 108, 32]))) (.string (str (decW n))) (.string (str (((l.take (min l.length 100)) ++ [32, 115, 101, 97, 108, 32]) ++ (decW n)))) from bin_strs (by have hl_x : ((l.take (min l.length 100)) ++ [32, 115, 101, 97, 108, 32]).length = min l.length 100 + ([32, 115, 101, 97, 108, 32].length) := (by have hl_p : (l.take (min l.length 100)).length = min l.length 100 := (by rw [List.length_take]; omega); rw [List.length_append]; omega); first | omega | (simp; done) | (simp; omega))) rfl ?_; clear hE a; intro a hE
            refine q_nil (q_nx ?_)
            refine o_fl rfl ?_
            refine q_nil (q_nx ?_)
            refine o_or rfl ?_ ?_
            · refine s_call hE rfl Tryd.call18 (sub_c k (str (((l.take (min l.length 100)) ++ [32, 115, 101, 97, 108, 32]) ++ (decW n))) _ (hM.get 8 rfl) hl_k (by show (((l.take (min l.length 100)) ++ [32, 115, 101, 97, 108, 32]) ++ (decW n)).length ≤ _; have hl_ : (((l.take (min l.length 100)) ++ [32, 115, 101, 97, 108, 32]) ++ (decW n)).length = min l.length 100 + ([32, 115, 101, 97, 108, 32].length) + ((decW n).length) := (by have hl_p : ((l.take (min l.length 100)) ++ [32, 115, 101, 97, 108, 32]).length = min l.length 100 + ([32, 115, 101, 97, 108, 32].length) := (by have hl_p : (l.take (min l.length 100)).length = min l.length 100 := (by rw [List.length_take]; omega); rw [List.length_append]; omega); rw [List.length_append]; omega); have hdw := decW_len n hn; simp only [List.length_append, List.length_take, List.length_cons, List.length_nil]; omega)) rfl ?_
              rintro e w31 ⟨rfl, hN⟩
              refine ⟨_, rfl, hN.sta0 _, ?_⟩; clear hE a; intro a hE
              replace hM : Mem _ _ w31 [_, _, _, _, _, _, _, _, _, _] := hM.call0 hN trivial; clear hN
              replace hE := hE.cast 87 rfl (show _ = Value.agg (bv (subW k (((l.take (min l.length 100)) ++ [32, 115, 101, 97, 108, 32]) ++ (decW n)))).toArray from rfl)
              refine q_nil (q_nx ?_)
              refine o_re ?_
              refine o_fl rfl ?_
              refine q_nil (q_nx ?_)
              refine o_fl rfl ?_
              refine q_nil (q_nx ?_)
              refine o_or rfl ?_ ?_
              · refine s_alloc [32] hE hM zero23 rfl rfl ?_; clear hE a; intro a b14 w32 hE hM'
                clear hM; have hM := hM'; clear hM'
                refine q_nil (q_nx ?_)
                refine o_cut (fun _ => True) ?_
                refine o_re ?_
                refine o_fl rfl ?_
                refine q_nil (q_nx ?_)
                refine o_fl rfl ?_
                refine q_nil (q_nx ?_)
                refine o_weak (fun b => b = b14) (fun _ _ => trivial) ?_
                refine o_or rfl ?_ ?_
                · refine s_storeSeg 0 hE rfl rfl hM rfl sz23 ((bv_length _).trans (subW_length k (((l.take (min l.length 100)) ++ [32, 115, 101, 97, 108, 32]) ++ (decW n)))) (bv_one _) rfl ((bv_length _).trans (by first | (simp; done) | (simp [*]; done) | (simp; omega))) rfl (by intro X h; cases h; rfl) ?_; intro w33 hM'; clear hM; have hM := hM'; clear hM'
                  simp only [List.set_cons_zero, List.set_cons_succ] at hM
                  refine q_nil (q_nx ?_)
                  refine o_cut (fun _ => True) ?_
                  refine o_re ?_
                  refine o_weak (fun _ => False) (fun _ _ => trivial) ?_
                  refine o_leaf rfl rfl ?_
                  refine q_nil (q_ph (q_nil ?_))
                  replace hE : Env a 110 [(3, _), (4, _), (5, _), (6, _), (7, _), (8, _), (11, _), (12, _), (13, _), (14, _), (45, _), (65, _), (77, _)] := hE.sel [3, 4, 5, 6, 7, 8, 11, 12, 13, 14, 45, 65, 77] rfl
                  replace hM : Mem _ _ w33 [_, _, _, _, _, _, _, _, _, _, _] := hM.pick [0, 1, 2, 3, 4, 5, 6, 7, 8, 9, 10] rfl
                  refine q_then_n ⟨_, hE.sel [3, 4, 5, 6, 7, 8, 11, 12, 13, 14, 45, 65, 77] rfl, hM⟩
                trivial
              trivial
            refine o_or rfl ?_ ?_
            · refine s_alloc [32] hE hM zero23 rfl rfl ?_; clear hE a; intro a b14 w31 hE hM'
              clear hM; have hM := hM'; clear hM'
              refine q_nil (q_nx ?_)
              refine o_cut (fun _ => True) ?_
              refine o_re ?_
              refine o_fl rfl ?_
              refine q_nil (q_nx ?_)
              refine o_fl rfl ?_
              refine q_nil (q_nx ?_)
              refine o_or rfl ?_ ?_
              · refine s_call hE rfl Tryd.call18 (sub_c k (str (((l.take (min l.length 100)) ++ [32, 115, 101, 97, 108, 32]) ++ (decW n))) _ (hM.get 9 rfl) hl_k (by show (((l.take (min l.length 100)) ++ [32, 115, 101, 97, 108, 32]) ++ (decW n)).length ≤ _; have hl_ : (((l.take (min l.length 100)) ++ [32, 115, 101, 97, 108, 32]) ++ (decW n)).length = min l.length 100 + ([32, 115, 101, 97, 108, 32].length) + ((decW n).length) := (by have hl_p : ((l.take (min l.length 100)) ++ [32, 115, 101, 97, 108, 32]).length = min l.length 100 + ([32, 115, 101, 97, 108, 32].length) := (by have hl_p : (l.take (min l.length 100)).length = min l.length 100 := (by rw [List.length_take]; omega); rw [List.length_append]; omega); rw [List.length_append]; omega); have hdw := decW_len n hn; simp only [List.length_append, List.length_take, List.length_cons, List.length_nil]; omega)) rfl ?_
                rintro e w32 ⟨rfl, hN⟩
                refine ⟨_, rfl, hN.sta0 _, ?_⟩; clear hE a; intro a hE
                replace hM : Mem _ _ w32 [_, _, _, _, _, _, _, _, _, _, _] := hM.call0 hN trivial; clear hN
                replace hE := hE.cast 87 rfl (show _ = Value.agg (bv (subW k (((l.take (min l.length 100)) ++ [32, 115, 101, 97, 108, 32]) ++ (decW n)))).toArray from rfl)
                refine q_nil (q_nx ?_)
                refine o_re ?_
                refine o_fl rfl ?_
                refine q_nil (q_nx ?_)
                refine o_fl rfl ?_
                refine q_nil (q_nx ?_)
                refine o_weak (fun b => b = b14) (fun _ _ => trivial) ?_
                refine o_or rfl ?_ ?_
                · refine s_storeSeg 0 hE rfl rfl hM rfl sz23 ((bv_length _).trans (subW_length k (((l.take (min l.length 100)) ++ [32, 115, 101, 97, 108, 32]) ++ (decW n)))) (bv_one _) rfl ((bv_length _).trans (by first | (simp; done) | (simp [*]; done) | (simp; omega))) rfl (by intro X h; cases h; rfl) ?_; intro w33 hM'; clear hM; have hM := hM'; clear hM'
                  simp only [List.set_cons_zero, List.set_cons_succ] at hM
                  refine q_nil (q_nx ?_)
                  refine o_cut (fun _ => True) ?_
                  refine o_re ?_
                  refine o_weak (fun _ => False) (fun _ _ => trivial) ?_
                  refine o_leaf rfl rfl ?_
                  refine q_nil (q_ph (q_nil ?_))
                  replace hE : Env a 110 [(3, _), (4, _), (5, _), (6, _), (7, _), (8, _), (11, _), (12, _), (13, _), (14, _), (45, _), (65, _), (77, _)] := hE.sel [3, 4, 5, 6, 7, 8, 11, 12, 13, 14, 45, 65, 77] rfl
                  replace hM : Mem _ _ w33 [_, _, _, _, _, _, _, _, _, _, _] := hM.pick [0, 1, 2, 3, 4, 5, 6, 7, 8, 9, 10] rfl
                  refine q_then_n ⟨_, hE.sel [3, 4, 5, 6, 7, 8, 11, 12, 13, 14, 45, 65, 77] rfl, hM⟩
                trivial
              trivial
            trivial
          refine o_or rfl ?_ ?_
          · refine s_alloc [32] hE hM zero23 rfl rfl ?_; clear hE a; intro a b14 w30 hE hM'
            clear hM; have hM := hM'; clear hM'
            refine q_nil (q_nx ?_)
            refine o_re ?_
            refine o_fl rfl ?_
            refine q_nil (q_nx ?_)
            refine o_fl rfl ?_
            refine q_nil (q_nx ?_)
            refine o_or rfl ?_ ?_
            · refine s_call hE rfl Tryd.call19 (ldec_c n _ (by first | omega | assumption | (simp; done) | (simp; omega) | decide)) rfl ?_
              rintro e w31 ⟨rfl, hN⟩
              refine ⟨_, rfl, hN.sta0 _, ?_⟩; clear hE a; intro a hE
              replace hM : Mem _ _ w31 [_, _, _, _, _, _, _, _, _, _, _] := hM.call0 hN trivial; clear hN
              refine q_nil (q_nx ?_)
              refine o_re ?_
              refine o_fl rfl ?_
              refine s_bin hE rfl rfl (show Bin _ _ _ (.string (str ((l.take (min l.length 100)) ++ [32, 115, 101, 97, 108, 32]))) (.string (str (decW n))) (.string (str (((l.take (min l.length 100)) ++ [32, 115, 101, 97, 108, 32]) ++ (decW n)))) from bin_strs (by have hl_x : ((l.take (min l.length 100)) ++ [32, 115, 101, 97, 108, 32]).length = min l.length 100 + ([32, 115, 101, 97, 108, 32].length) := (by have hl_p : (l.take (min l.length 100)).length = min l.length 100 := (by rw [List.length_take]; omega); rw [List.length_append]; omega); first | omega | (simp; done) | (simp; omega))) rfl ?_; clear hE a; intro a hE
              refine q_nil (q_nx ?_)
              refine o_fl rfl ?_
              refine q_nil (q_nx ?_)
              refine o_or rfl ?_ ?_
              · refine s_call hE rfl Tryd.call18 (sub_c k (str (((l.take (min l.length 100)) ++ [32, 115, 101, 97, 108, 32]) ++ (decW n))) _ (hM.get 9 rfl) hl_k (by show (((l.take (min l.length 100)) ++ [32, 115, 101, 97, 108, 32]) ++ (decW n)).length ≤ _; have hl_ : (((l.take (min l.length 100)) ++ [32, 115, 101, 97, 108, 32]) ++ (decW n)).length = min l.length 100 + ([32, 115, 101, 97, 108, 32].length) + ((decW n).length) := (by have hl_p : ((l.take (min l.length 100)) ++ [32, 115, 101, 97, 108, 32]).length = min l.length 100 + ([32, 115, 101, 97, 108, 32].length) := (by have hl_p : (l.take (min l.length 100)).length = min l.length 100 := (by rw [List.length_take]; omega); rw [List.length_append]; omega); rw [List.length_append]; omega); have hdw := decW_len n hn; simp only [List.length_append, List.length_take, List.length_cons, List.length_nil]; omega)) rfl ?_
                rintro e w32 ⟨rfl, hN⟩
                refine ⟨_, rfl, hN.sta0 _, ?_⟩; clear hE a; intro a hE
                replace hM : Mem _ _ w32 [_, _, _, _, _, _, _, _, _, _, _] := hM.call0 hN trivial; clear hN
                replace hE := hE.cast 87 rfl (show _ = Value.agg (bv (subW k (((l.take (min l.length 100)) ++ [32, 115, 101, 97, 108, 32]) ++ (decW n)))).toArray from rfl)
                refine q_nil (q_nx ?_)
                refine o_cut (fun _ => True) ?_
                refine o_re ?_
                refine o_fl rfl ?_
                refine q_nil (q_nx ?_)
                refine o_fl rfl ?_
                refine q_nil (q_nx ?_)
                refine o_weak (fun b => b = b14) (fun _ _ => trivial) ?_
                refine o_or rfl ?_ ?_
                · refine s_storeSeg 0 hE rfl rfl hM rfl sz23 ((bv_length _).trans (subW_length k (((l.take (min l.length 100)) ++ [32, 115, 101, 97, 108, 32]) ++ (decW n)))) (bv_one _) rfl ((bv_length _).trans (by first | (simp; done) | (simp [*]; done) | (simp; omega))) rfl (by intro X h; cases h; rfl) ?_; intro w33 hM'; clear hM; have hM := hM'; clear hM'
                  simp only [List.set_cons_zero, List.set_cons_succ] at hM
                  refine q_nil (q_nx ?_)
                  refine o_cut (fun _ => True) ?_
                  refine o_re ?_
                  refine o_weak (fun _ => False) (fun _ _ => trivial) ?_
                  refine o_leaf rfl rfl ?_
                  refine q_nil (q_ph (q_nil ?_))
                  replace hE : Env a 110 [(3, _), (4, _), (5, _), (6, _), (7, _), (8, _), (11, _), (12, _), (13, _), (14, _), (45, _), (65, _), (77, _)] := hE.sel [3, 4, 5, 6, 7, 8, 11, 12, 13, 14, 45, 65, 77] rfl
                  replace hM : Mem _ _ w33 [_, _, _, _, _, _, _, _, _, _, _] := hM.pick [0, 1, 2, 3, 4, 5, 6, 7, 8, 9, 10] rfl
                  refine q_then_n ⟨_, hE.sel [3, 4, 5, 6, 7, 8, 11, 12, 13, 14, 45, 65, 77] rfl, hM⟩
                trivial
              trivial
            trivial
          trivial
        refine o_or rfl ?_ ?_
        · refine s_alloc [32] hE hM zero23 rfl rfl ?_; clear hE a; intro a b14 w29 hE hM'
          clear hM; have hM := hM'; clear hM'
          refine q_nil (q_nx ?_)
          refine o_re ?_
          refine o_fl rfl ?_
          refine q_nil (q_nx ?_)
          refine o_fl rfl ?_
          refine q_nil (q_nx ?_)
          refine o_or rfl ?_ ?_
          · refine s_call hE rfl Tryd.call15 (label10_c k l n _ hl_k) rfl ?_
            rintro e w30 ⟨rfl, hN⟩
            refine ⟨_, rfl, hN.sta0 _, ?_⟩; clear hE a; intro a hE
            replace hM : Mem _ _ w30 [_, _, _, _, _, _, _, _, _, _, _] := hM.call0 hN trivial; clear hN
            refine q_nil (q_nx ?_)
            refine o_re ?_
            refine o_fl rfl ?_
            refine s_bin hE rfl rfl (show Bin _ _ _ (.string (str (l.take (min l.length 100)))) (.string (str [32, 115, 101, 97, 108, 32])) (.string (str ((l.take (min l.length 100)) ++ [32, 115, 101, 97, 108, 32]))) from bin_strs (by have hl_x : (l.take (min l.length 100)).length = min l.length 100 := (by rw [List.length_take]; omega); first | omega | (simp; done) | (simp; omega))) rfl ?_; clear hE a; intro a hE
            refine q_nil (q_nx ?_)
            refine o_fl rfl ?_
            refine q_nil (q_nx ?_)
            refine o_or rfl ?_ ?_
            · refine s_call hE rfl Tryd.call19 (ldec_c n _ (by first | omega | assumption | (simp; done) | (simp; omega) | decide)) rfl ?_
              rintro e w31 ⟨rfl, hN⟩
              refine ⟨_, rfl, hN.sta0 _, ?_⟩; clear hE a; intro a hE
              replace hM : Mem _ _ w31 [_, _, _, _, _, _, _, _, _, _, _] := hM.call0 hN trivial; clear hN
              refine q_nil (q_nx ?_)
              refine o_re ?_
              refine o_fl rfl ?_
              refine s_bin hE rfl rfl (show Bin _ _ _ (.string (str ((l.take (min l.length 100)) ++ [32, 115, 101, 97, 108, 32]))) (.string (str (decW n))) (.string (str (((l.take (min l.length 100)) ++ [32, 115, 101, 97, 108, 32]) ++ (decW n)))) from bin_strs (by have hl_x : ((l.take (min l.length 100)) ++ [32, 115, 101, 97, 108, 32]).length = min l.length 100 + ([32, 115, 101, 97, 108, 32].length) := (by have hl_p : (l.take (min l.length 100)).length = min l.length 100 := (by rw [List.length_take]; omega); rw [List.length_append]; omega); first | omega | (simp; done) | (simp; omega))) rfl ?_; clear hE a; intro a hE
              refine q_nil (q_nx ?_)
              refine o_fl rfl ?_
              refine q_nil (q_nx ?_)
              refine o_or rfl ?_ ?_
              · refine s_call hE rfl Tryd.call18 (sub_c k (str (((l.take (min l.length 100)) ++ [32, 115, 101, 97, 108, 32]) ++ (decW n))) _ (hM.get 9 rfl) hl_k (by show (((l.take (min l.length 100)) ++ [32, 115, 101, 97, 108, 32]) ++ (decW n)).length ≤ _; have hl_ : (((l.take (min l.length 100)) ++ [32, 115, 101, 97, 108, 32]) ++ (decW n)).length = min l.length 100 + ([32, 115, 101, 97, 108, 32].length) + ((decW n).length) := (by have hl_p : ((l.take (min l.length 100)) ++ [32, 115, 101, 97, 108, 32]).length = min l.length 100 + ([32, 115, 101, 97, 108, 32].length) := (by have hl_p : (l.take (min l.length 100)).length = min l.length 100 := (by rw [List.length_take]; omega); rw [List.length_append]; omega); rw [List.length_append]; omega); have hdw := decW_len n hn; simp only [List.length_append, List.length_take, List.length_cons, List.length_nil]; omega)) rfl ?_
                rintro e w32 ⟨rfl, hN⟩
                refine ⟨_, rfl, hN.sta0 _, ?_⟩; clear hE a; intro a hE
                replace hM : Mem _ _ w32 [_, _, _, _, _, _, _, _, _, _, _] := hM.call0 hN trivial; clear hN
                replace hE := hE.cast 87 rfl (show _ = Value.agg (bv (subW k (((l.take (min l.length 100)) ++ [32, 115, 101, 97, 108, 32]) ++ (decW n)))).toArray from rfl)
                refine q_nil (q_nx ?_)
                refine o_cut (fun _ => True) ?_
                refine o_re ?_
                refine o_fl rfl ?_
                refine q_nil (q_nx ?_)
                refine o_fl rfl ?_
                refine q_nil (q_nx ?_)
                refine o_weak (fun b => b = b14) (fun _ _ => trivial) ?_
                refine o_or rfl ?_ ?_
                · refine s_storeSeg 0 hE rfl rfl hM rfl sz23 ((bv_length _).trans (subW_length k (((l.take (min l.length 100)) ++ [32, 115, 101, 97, 108, 32]) ++ (decW n)))) (bv_one _) rfl ((bv_length _).trans (by first | (simp; done) | (simp [*]; done) | (simp; omega))) rfl (by intro X h; cases h; rfl) ?_; intro w33 hM'; clear hM; have hM := hM'; clear hM'
                  simp only [List.set_cons_zero, List.set_cons_succ] at hM
                  refine q_nil (q_nx ?_)
                  refine o_cut (fun _ => True) ?_
                  refine o_re ?_
                  refine o_weak (fun _ => False) (fun _ _ => trivial) ?_
                  refine o_leaf rfl rfl ?_
                  refine q_nil (q_ph (q_nil ?_))
                  replace hE : Env a 110 [(3, _), (4, _), (5, _), (6, _), (7, _), (8, _), (11, _), (12, _), (13, _), (14, _), (45, _), (65, _), (77, _)] := hE.sel [3, 4, 5, 6, 7, 8, 11, 12, 13, 14, 45, 65, 77] rfl
                  replace hM : Mem _ _ w33 [_, _, _, _, _, _, _, _, _, _, _] := hM.pick [0, 1, 2, 3, 4, 5, 6, 7, 8, 9, 10] rfl
                  refine q_then_n ⟨_, hE.sel [3, 4, 5, 6, 7, 8, 11, 12, 13, 14, 45, 65, 77] rfl, hM⟩
                trivial
              trivial
            trivial
          trivial
        trivial
      clear hE hM a; rintro a w34 ⟨b14, hE, hM⟩
      refine wp_seq_k (fun K12 hK12 => ?_)
      refine wp_drawnM hM (by kernel_rfl) (fun _ => False) [(0, true), (1, true), (2, true), (4, true), (5, true), (6, true), (3, false), (7, false), (8, true), (9, true), (10, false), (11, true), (12, true)] [(3, [(7, 3), (8, 3), (9, 8), (10, 9), (11, 9), (12, 3)]), (7, [(8, 7), (9, 7), (10, 9), (11, 9), (12, 7)]), (10, [(11, 10), (12, 10)])] (by kernel_rfl) rfl ?_
      intro w35 hM' hww35; clear hM; have hM := hM'; clear hM'
      refine s_loadN hE rfl (hM.get 0 rfl) row23 rfl (by intro X h; cases h; simp) rfl ?_; clear hE a; intro a hE
      refine s_fieldAddr hE rfl fo29_0 rfl ?_; clear hE a; intro a hE
      refine s_loadN hE rfl (hM.get 2 rfl) row23 rfl (by intro X h; cases h; simp) rfl ?_; clear hE a; intro a hE
      refine s_loadN hE rfl (hM.get 0 rfl) row23 rfl (by intro X h; cases h; simp) rfl ?_; clear hE a; intro a hE
      refine s_fieldAddr hE rfl fo29_0 rfl ?_; clear hE a; intro a hE
      refine s_loadN hE rfl (hM.get 5 rfl) row23 rfl (by intro X h; cases h; simp) rfl ?_; clear hE a; intro a hE
      refine s_call hE rfl Tryd.call20 (tag10_c (subW k (((l.take (min l.length 100)) ++ [32, 115, 101, 97, 108, 32]) ++ (decW n))) d _ (hM.get 9 rfl) (subW_length k (((l.take (min l.length 100)) ++ [32, 115, 101, 97, 108, 32]) ++ (decW n))) hl_d) rfl ?_
      rintro e w36 ⟨rfl, hN⟩
      refine ⟨_, rfl, hN.sta0 _, ?_⟩; clear hE a; intro a hE
      replace hM : Mem _ _ w36 [_, _, _, _, _, _, _, _, _, _, _] := hM.call0 hN trivial; clear hN
      refine s_call hE rfl Tryd.call20 (tag10_c (subW k (((l.take (min l.length 100)) ++ [32, 115, 101, 97, 108, 32]) ++ (decW n))) (wrapD k (l.take (min l.length 100)) n p) _ (hM.get 9 rfl) (subW_length k (((l.take (min l.length 100)) ++ [32, 115, 101, 97, 108, 32]) ++ (decW n))) (wrapD_len (k := k) (l := (l.take (min l.length 100))) (n := n) (x := p) (by have hl_ax : p.length = 32 := hl_p; first | assumption | (simp; done)))) rfl ?_
      rintro e w37 ⟨rfl, hN⟩
      refine ⟨_, rfl, hN.sta0 _, ?_⟩; clear hE a; intro a hE
      replace hM : Mem _ _ w37 [_, _, _, _, _, _, _, _, _, _, _] := hM.call0 hN trivial; clear hN
      refine s_bin hE rfl rfl (eqa27 (hmacW_length ..) (hmacW_length ..)).1 rfl ?_; clear hE a; intro a hE
      refine s_move hE rfl rfl ?_; clear hE a; intro a hE
      replace hE := hE.cast 97 rfl (show _ = Value.bool true from (congrArg Value.bool (decide_eq_true (by rw [sealB_eq]; simp only [tagB] at htt; exact htt))))
      refine g_yes hE rfl rfl ?_
      refine s_call hE rfl Tryd.call17 (works10_c  _ (hM.get 9 rfl) (hM.get 10 rfl)) rfl ?_
      rintro e w38 ⟨rfl, hN⟩
      refine ⟨_, rfl, hN.sta0 _, ?_⟩; clear hE a; intro a hE
      replace hM : Mem _ _ w38 [_, _, _, _, _, _, _, _, _, _, _] := hM.call0 hN trivial; clear hN
      refine s_pickt hE rfl rfl rfl ?_; clear hE a; intro a hE
      refine s_assign hE rfl rfl ?_; clear hE a; intro a hE
      refine q_nil ?_
      replace hE : Env a 110 [(3, _), (4, _), (5, _), (6, _), (7, _), (8, _), (11, _), (12, _), (13, _), (14, _), (45, _), (65, _), (77, _)] := hE.sel [3, 4, 5, 6, 7, 8, 11, 12, 13, 14, 45, 65, 77] rfl
      refine hK12 _ _ ?_
      refine wp_ret ?_
      refine q_then_r ?_
      refine f_ret1 hE rfl rfl ?_
      exact ⟨(by first | rfl | (simp; done)), hM.pick [] rfl⟩
    · replace hE := hE'; clear hE'
      replace hb77 := of_decide_eq_false hb77
      replace hb77 : ¬ ((unwE k (l.take (min l.length 100)) n d (tagB k (l.take (min l.length 100)) n (wrapD k (l.take (min l.length 100)) n p))) = 0) := by omega
      obtain ⟨hn1, hn2⟩ := unw_no (k := k) (l := l.take (min l.length 100)) (n := n) (d := d) (t := tagB k (l.take (min l.length 100)) n (wrapD k (l.take (min l.length 100)) n p)) (by omega)
      refine wp_cond_false (hE.eval rfl) ?_
      refine wp_skip ?_
      refine hK10 _ _ ?_
      refine wp_seq_k (fun K12 hK12 => ?_)
      refine wp_plain [true, true, true, true, true, true, true, true, false, true, true] rfl rfl ?_
      refine s_move hE rfl rfl ?_; clear hE a; intro a hE
      refine s_bin hE rfl rfl bin_eql rfl ?_; clear hE a; intro a hE
      refine s_move hE rfl rfl ?_; clear hE a; intro a hE
      replace hE := hE.cast 102 rfl (show _ = Value.bool true from (congrArg Value.bool (by first | (rw [hn1]; rfl) | (rw [hn2]; simp; done) | (with_reducible rfl))))
      refine g_yes hE rfl rfl ?_
      refine s_loadN hE rfl (hM.get 0 rfl) row23 rfl (by intro X h; cases h) rfl ?_; clear hE a; intro a hE
      refine g_yes hE rfl rfl ?_
      refine s_build (r := .agg (bv (List.replicate 32 (0 : UInt8))).toArray) _ hE rfl (fun w => by kernel_rfl) rfl ?_; clear hE a; intro a hE
      refine g_yes hE rfl rfl ?_
      refine s_bin hE rfl rfl (eqa23 (unwK_len (k := k) (l := (l.take (min l.length 100))) (n := n) (d := d) (t := (tagB k (l.take (min l.length 100)) n (wrapD k (l.take (min l.length 100)) n p))) (by have hl_std : d.length = 32 := hl_d; first | assumption | (simp; done))) (by first | (simp; done) | (simp [*]; done) | (simp; omega))).1 rfl ?_; clear hE a; intro a hE
      refine s_pickt hE rfl rfl rfl ?_; clear hE a; intro a hE
      refine s_move hE rfl rfl ?_; clear hE a; intro a hE
      replace hE := hE.cast 107 rfl (show _ = Value.bool true from (congrArg Value.bool (by first | (rw [hn1]; rfl) | (rw [hn2]; simp; done) | (with_reducible rfl))))
      refine g_yes hE rfl rfl ?_
      refine s_call hE rfl Tryd.call17 (works10_c  _ (hM.get 8 rfl) (hM.get 9 rfl)) rfl ?_
      rintro e w28 ⟨rfl, hN⟩
      refine ⟨_, rfl, trivial, ?_⟩; clear hE a; intro a hE
      replace hM : Mem _ _ w28 [_, _, _, _, _, _, _, _, _, _] := hM.call0 hN trivial; clear hN
      refine s_pickt hE rfl rfl rfl ?_; clear hE a; intro a hE
      refine s_assign hE rfl rfl ?_; clear hE a; intro a hE
      refine q_nil ?_
      replace hE : Env a 110 [(3, _), (4, _), (5, _), (6, _), (7, _), (8, _), (11, _), (12, _), (13, _), (45, _), (65, _), (77, _)] := hE.sel [3, 4, 5, 6, 7, 8, 11, 12, 13, 45, 65, 77] rfl
      refine hK12 _ _ ?_
      refine wp_ret ?_
      refine f_ret1 hE rfl rfl ?_
      exact ⟨(by first | rfl | (simp; done)), hM.pick [] rfl⟩
set_option maxRecDepth 100000 in
theorem boxTold_lifted (os : Os) (started : os.Started) (H : Type) (enc : TypeId × Value → H) :
    ReturnsInHanded {} Tryd.checked os 3 .any (fun w args => (Rows.boxToldSpec.pre enc Tryd.prog Tryd.f3 [] false w args ∧ laidMetH Tryd.prog Rows.boxToldRow.laid w) ∧ sizedMet enc Tryd.prog Tryd.f3 (OpenSpec.ofChange Rows.boxToldSpec) false w args) (Rows.boxToldSpec.post enc Tryd.prog Tryd.f3 false true false false) := by
  refine law_liftedL (C := Tryd.checked) (fn := Tryd.f3) (l := Rows.boxToldRow.laid) (by kernel_rfl) started (by kernel_rfl) Tryd.func3 rfl (fun ds hl => ?_) rfl Tryd.underlying4 (by kernel_rfl) (of_decide_eq_true (by kernel_rfl)) (by kernel_rfl)
    (ChangeSpec.witness_shaped (enc := enc) (C := Tryd.checked) (os := os) (X := fun w _ => laidMetH Tryd.prog Rows.boxToldRow.laid w) false (World.laidAll Tryd.prog os Rows.boxToldRow.laid) #[.agg (bv (List.replicate 32 0) ++ [Value.string .empty, Value.int .u64 0]).toArray, .agg (bv (List.replicate 32 0)).toArray, .agg (bv (List.replicate 64 0)).toArray] 8 (World.laidAll_os _ _ _) (World.shaped_of_ZipB (by kernel_rfl) (by kernel_rfl)) (by kernel_rfl) (by kernel_rfl) (by kernel_rfl) (by rw [MakeChecks.laidMetH_plain _ _ _ (by kernel_rfl)]; exact laidMet_laidAll _ (by kernel_rfl) (by kernel_rfl))) ?_
  · rw [Tryd.params3] at hl
    match ds, hl with
    | [_, _, _], _ => rfl
  · intro W base args ds ps hval hA hw hL
    have hG := glb_of_laid (P := Tryd.prog) (g := 1) (t := 170) (e := 129) (by kernel_rfl) (by kernel_rfl) Tryd.underlying170 Tryd.underlying129 (by kernel_rfl) (by kernel_rfl) (by kernel_rfl) (show laidMet Tryd.prog (_ :: _) W from (laidMet_tail (laidMet_tail (laidMet_tail hL))))
    have hT : tabP.holds W := tabE_of_laid (P := Tryd.prog) (g := 0) (t := 163) (e := 24) (n := 20) (by kernel_rfl) (by kernel_rfl) Tryd.underlying163 Tryd.underlying24 (by kernel_rfl) (by kernel_rfl) (by kernel_rfl) (show laidMet Tryd.prog (_ :: _) W from (laidMet_tail (laidMet_tail hL)))
    rw [Tryd.params3] at hA hval hw
    obtain ⟨v0, vs0, d0, ds0, p0, q0, hargs, rfl, rfl, h0, r0⟩ := trodAll_cons hA
    obtain ⟨v1, vs1, d1, ds1, p1, q1, rfl, rfl, rfl, h1, r1⟩ := trodAll_cons r0
    obtain ⟨v2, vs2, d2, ds2, p2, q2, rfl, rfl, rfl, h2, r2⟩ := trodAll_cons r1
    obtain ⟨rfl, rfl, rfl⟩ := trodAll_nil r2
    obtain rfl : args = #[v0, v1, v2] := by cases args; simp_all
    obtain ⟨cs0, rfl, hcs0⟩ := okWide_struct Tryd.underlying26 (hval 0 26 v0 rfl rfl)
    obtain ⟨_, _, _, hc0, ⟨bk, rfl, hbk⟩, ⟨sl, rfl, hsl⟩, ⟨zn, rfl, hn1, hn2⟩⟩ := trod_of (dec_f3 (t := 26) (s := 34) (n0 := 32) (n1 := 1) (n2 := 1) (o2 := 33) Tryd.underlying26 (by kernel_rfl) (by kernel_rfl) rfl rfl (dec_arr8 (n := 32) Tryd.underlying23 Tryd.underlying5 (by kernel_rfl) (by kernel_rfl)) (dec_string Tryd.underlying9) (dec_int Tryd.underlying24)) h0 (fun m hm => hw m (by simp only [DataW.weightsEach, List.mem_append]; exact .inl hm))
    obtain ⟨n, rfl⟩ := Int.eq_ofNat_of_zero_le (show 0 ≤ zn from hn1)
    have hn : n < 18446744073709551616 := by have h : (n : Int) ≤ 18446744073709551615 := hn2; omega
    obtain ⟨l, rfl⟩ := str_of sl
    have ecs0 := agg_of hc0
    subst ecs0
    obtain ⟨a1, rfl, ha1⟩ := arg_arr8 Tryd.underlying23 Tryd.underlying5 (by kernel_rfl) (by kernel_rfl) (hval 1 23 v1 rfl rfl) h1 (fun m hm => hw m (by simp only [DataW.weightsEach, List.mem_append]; exact .inr (.inl hm)))
    obtain ⟨cs2, rfl, hcs2⟩ := okWide_struct Tryd.underlying29 (hval 2 29 v2 rfl rfl)
    obtain ⟨_, _, hc2, ⟨d, rfl, hld⟩, ⟨t, rfl, hlt⟩⟩ := trod_of (dec_f2 (t := 29) (s := 64) (n0 := 32) (n1 := 32) Tryd.underlying29 (by kernel_rfl) (by kernel_rfl) rfl (dec_arr8 (n := 32) Tryd.underlying23 Tryd.underlying5 (by kernel_rfl) (by kernel_rfl)) (dec_arr8 (n := 32) Tryd.underlying27 Tryd.underlying5 (by kernel_rfl) (by kernel_rfl))) h2 (fun m hm => hw m (by simp only [DataW.weightsEach, List.mem_append]; exact .inr (.inr (.inl hm))))
    have ecs2 := agg_of hc2
    subst ecs2
    have ef : ∀ (a b : List Value), ([a, b] : List (List Value)).flatten = a ++ b := fun a b => by simp
    have ef3 : ∀ (a b c : List Value), ([a, b, c] : List (List Value)).flatten = a ++ (b ++ c) := fun a b c => by simp
    exact (by have h := boxTold_c bk l n a1 d t W hG hT hbk ha1 hld hlt hn; rw [ef, ef3] at h; exact h)

/-- The row's statement. -/
theorem boxTold_row : Rows.BoxToldSaid :=
  OpenClaim.holds_of_wide 3 Tryd.f3 rfl rfl rfl rfl rfl rfl rfl ⟨rfl, rfl, rfl, rfl, rfl⟩ rfl rfl rfl rfl rfl (by kernel_rfl) Tryd.func3 (by kernel_rfl)
    (of_decide_eq_true (by kernel_rfl)) (by unfold Func.isWrapper; first | (rw [if_pos (by decide +kernel)]; kernel_rfl) | (rw [if_neg (by decide +kernel)]; exact ⟨rfl, rfl⟩))
    (fun os started H enc _ => boxTold_lifted os started H enc)

/-- The statement: the row, its listed variable tied to the program's text. -/
theorem boxTold_holds : Rows.BoxToldCardSaid :=
  Claim7.holds_tied_plain_at .later [] [.data, .data, .data, .data] true (true, "260fdf816069b3bf8e1fff31512b0488977d0f5c26e19155cc996da54a266071") false
    boxTold_row (fun _ h => by cases h) (by kernel_rfl) (fun _ h => by cases h) boxTold_row_tie rfl ⟨rfl, rfl⟩ (by kernel_rfl) rfl
    (fun f fn hf hfn => by
      obtain rfl : f = 3 := Option.some.inj ((show Tryd.prog.funcNamed "casemate/casematelaw10.BoxTold" = some 3 by kernel_rfl).symm.trans hf) |>.symm
      obtain rfl : fn = Tryd.f3 := (Option.some.inj (Tryd.func3.symm.trans hfn)).symm
      exact ⟨by kernel_rfl, fun j t ht => by
        rw [Tryd.params3] at ht
        have h : t ∈ [26, 23, 29] := by
          rcases j with _ | _ | _ | j
          · simp at ht; simp [ht]
          · simp at ht; simp [ht]
          · simp at ht; simp [ht]
          · simp at ht
        simp only [List.mem_cons, List.not_mem_nil, or_false] at h
        rcases h with rfl | rfl | rfl
        · exact (show Tryd.prog.wantsStandIn 26 = false by kernel_rfl)
        · exact (show Tryd.prog.wantsStandIn 23 = false by kernel_rfl)
        · exact (show Tryd.prog.wantsStandIn 29 = false by kernel_rfl)⟩)
    (by kernel_rfl)
#print axioms boxTold_holds
end Go.Proofs.YtniekapfoaiieaaDoor
