/- BoxBack of casematelaw10 returns true for whatever key, label, number, two keys and bytes; they read behind the call as before. No condition. -/
import Derived.Test.YtniekapfoaiieaaDoorLg
import Derived.Test.YtniekapfoaiieaaDoorTie
import Derived.Test.YtniekapfoaiieaaDoorCards
set_option linter.unusedSimpArgs false
set_option linter.unusedVariables false
namespace Go.Proofs.YtniekapfoaiieaaDoor
open Go Go.Kx
open Go.ChangeShapes Go.WideShapes Go.ChangeAt Go.RowKit
theorem arr49 : arrT Tryd.prog 49 = some (2, 32) := by kernel_rfl
theorem fo26_0 : fieldOff Tryd.prog 26 0 = some 0 := by kernel_rfl
theorem fo26_2 : fieldOff Tryd.prog 26 2 = some 33 := by kernel_rfl
theorem row26 : RowT Tryd.prog 26 34 := RowT.of Tryd.underlying26 rfl (by kernel_rfl)
theorem kl29 : ∀ {k : Nat} {x0 : List UInt8} {x1 : List UInt8} (hx0 : x0.length = 32) (hx1 : x1.length = 32), KL Tryd.prog (k + 3) 29 ([bv x0, bv x1].flatten) := fun {k} {x0} {x1} hx0 hx1 => KL.struct [32, 32] Tryd.underlying29 (by kernel_rfl) (by kernel_rfl) (by kernel_rfl) (by simp [*]) [23, 27] (by kernel_rfl) ⟨KL.arr8 Tryd.underlying23 Tryd.underlying5 (by kernel_rfl) (by kernel_rfl) hx0, KL.arr8 Tryd.underlying27 Tryd.underlying5 (by kernel_rfl) (by kernel_rfl) hx1, trivial⟩
theorem eqk29 : ∀ {cs ds : List Value} {b : Bool} {k k' : Nat}, KL Tryd.prog k 29 cs → KL Tryd.prog k' 29 ds → (b = true ↔ cs = ds) → Bin Tryd.prog .eql 29 (.agg cs.toArray) (.agg ds.toArray) (.bool b) ∧ Bin Tryd.prog .neq 29 (.agg cs.toArray) (.agg ds.toArray) (.bool (!b)) := fun h1 h2 hb => bins_key (m := 3) (by kernel_rfl) rfl (by kernel_rfl) (by rw [Tryd.underlying29]) h1 h2 hb
theorem boxBack_c (k : List UInt8) (l : List UInt8) (n : Nat) (p q : List UInt8) (v : Value) (bs : List UInt8) (c : Nat) (w : World) (hG : (glb 1).holds w) (hT : tabP.holds w) (hl_k : k.length = 32) (hr_bs : (rd v 1 bs.length c (bv bs)).holds w) (hn : n < 18446744073709551616) (hl_p : p.length = 32) (hl_q : q.length = 32) : Calls Tryd.prog 6 #[.agg ([bv k, [.string (str l)], [.int .u64 ((n : Nat) : Int)]] : List (List Value)).flatten.toArray, .agg ([bv p, bv q] : List (List Value)).flatten.toArray, v] w fun e w' => e = .returned (.bool true) ∧ Mem w [] w' [] := by
  have hqb : (bs.take (min bs.length 100)).length = min bs.length 100 := by rw [List.length_take]; omega
  have hlD : (wrapD k (l.take (min l.length 100)) n p).length = 32 := wrapD_len hl_p
  have hlT : (tagB k (l.take (min l.length 100)) n (wrapD k (l.take (min l.length 100)) n p)).length = 32 := tagB_len ..
  obtain ⟨hg1, hg2, hg3, hg4⟩ := getB_put (r := (bs.take (min bs.length 100))) hlD hlT
  have hok := unw_ok (k := k) (l := l.take (min l.length 100)) (n := n) hl_p
  have hM : Mem w [] w [rd v 1 bs.length c (bv bs), glb 1, tabP] := Mem.startR w (fun g hg => by
    simp only [List.mem_cons, List.not_mem_nil, or_false] at hg
    rcases hg with rfl | rfl | rfl
    · exact ⟨hr_bs, rfl⟩
    · exact ⟨hG, rfl⟩
    · exact ⟨hT, rfl⟩)
  refine f_enter 133 Tryd.func6 rfl rfl rfl ?_
  intro a hE
  replace hE : Env a 133 [(0, _), (1, _), (2, _)] := hE
  refine wp_seq_k (fun K1 hK1 => ?_)
  refine wp_plain [false, false, true] rfl rfl ?_
  refine s_box (ss := [bv k, [.string (str l)], [.int .u64 ((n : Nat) : Int)]]) [32, 1, 1] hE hM rfl rfl (by simp [*]) rfl ?_; clear hE a; intro a b3 w1 hE hM'
  clear hM; have hM := hM'; clear hM'
  refine s_box (ss := [bv p, bv q]) [32, 32] hE hM rfl rfl (by simp [*]) rfl ?_; clear hE a; intro a b4 w2 hE hM'
  clear hM; have hM := hM'; clear hM'
  refine s_assign hE rfl rfl ?_; clear hE a; intro a hE
  refine q_nil ?_
  replace hE : Env a 133 [(2, _), (3, _), (4, _), (6, _)] := hE.sel [2, 3, 4, 6] rfl
  refine hK1 _ _ ?_
  refine wp_seq_j (fun a w' => ∃ (b8 : Nat), ∃ (b7 : Nat), Env a 133 [(2, v), (3, .pointer (some ⟨b3, 0, none⟩)), (6, .bool false), (7, .pointer (some ⟨b7, 0, none⟩)), (8, .pointer (some ⟨b8, 0, none⟩))] ∧ Mem w [] w' [blk b8 [bv q] [32] 23, blk b7 [bv p] [32] 23, blk b4 [bv p, bv q] [32, 32] 49, blk b3 [bv k, [.string (str l)], [.int .u64 ((n : Nat) : Int)]] [32, 1, 1] 26, rd v 1 bs.length c (bv bs), glb 1, tabP]) ?_ ?_
  · refine wp_treeM hM (by kernel_rfl) (fun _ => True) (fun _ => True) (.re [(0, true), (2, true), (1, true), (3, true), (4, false), (5, false), (6, false), (7, false)] (.fl 2 (.weak (.fl 2 (.or 4 (.re [(5, false), (6, false), (7, false)] (.fl 0 (.fl 0 (.or 5 (.re [(6, false), (7, false)] (.fl 0 (.fl 0 (.or 6 (.cut (.re [(7, false)] (.fl 0 (.fl 0 (.weak (.or 7 (.cut (.re [] (.weak (.leaf 0)))) (.stop))))))) (.stop))))) (.stop))))) (.or 5 (.re [(4, false), (6, false), (7, false)] (.fl 0 (.fl 0 (.or 4 (.re [(6, false), (7, false)] (.fl 0 (.fl 0 (.or 6 (.cut (.re [(7, false)] (.fl 0 (.fl 0 (.weak (.or 7 (.cut (.re [] (.weak (.leaf 0)))) (.stop))))))) (.stop))))) (.stop))))) (.stop))))))) [(0, true), (2, true), (1, true), (3, true), (4, false), (5, false), (6, false), (7, false)] [(0, [(1, 0), (6, 0), (7, 0)]), (1, [(6, 1), (7, 1)]), (2, [(3, 2), (7, 2)]), (3, [(7, 3)]), (4, [(6, 4), (7, 4)]), (5, [(6, 5), (7, 5)]), (6, [(7, 6)]), (7, [])] (by kernel_rfl) ?_
    intro w3 hM' hww3; clear hM; have hM := hM'; clear hM'
    refine o_re ?_
    refine o_fl rfl ?_
    refine s_indexArr (j := 0) hE rfl rfl arr49 rfl (by decide) rfl ?_; clear hE a; intro a hE
    refine s_indexArr (j := 1) hE rfl rfl arr49 rfl (by decide) rfl ?_; clear hE a; intro a hE
    refine q_nil (q_nx ?_)
    refine o_weak (fun b => b ≠ b4) (fun _ _ => trivial) ?_
    refine o_fl rfl ?_
    refine s_loadN hE rfl (hM.get 0 rfl) row23 rfl (by intro X h; cases h; simp) rfl ?_; clear hE a; intro a hE
    refine s_loadN hE rfl (hM.get 0 rfl) row23 rfl (by intro X h; cases h; simp) rfl ?_; clear hE a; intro a hE
    refine q_nil (q_nx ?_)
    refine o_or rfl ?_ ?_
    · refine s_alloc [32] hE hM zero23 rfl rfl ?_; clear hE a; intro a b7 w4 hE hM'
      clear hM; have hM := hM'; clear hM'
      refine q_nil (q_nx ?_)
      refine o_re ?_
      refine o_fl rfl ?_
      refine q_nil (q_nx ?_)
      refine o_fl rfl ?_
      refine q_nil (q_nx ?_)
      refine o_or rfl ?_ ?_
      · refine s_alloc [32] hE hM zero23 rfl rfl ?_; clear hE a; intro a b8 w5 hE hM'
        clear hM; have hM := hM'; clear hM'
        refine q_nil (q_nx ?_)
        refine o_re ?_
        refine o_fl rfl ?_
        refine q_nil (q_nx ?_)
        refine o_fl rfl ?_
        refine q_nil (q_nx ?_)
        refine o_or rfl ?_ ?_
        · replace hM : Mem _ _ w5 [_, _, _, _, _, _, _] := hM.pick [1, 0, 2, 3, 4, 5, 6] rfl
          refine s_storeSeg 0 hE rfl rfl hM rfl sz23 ((bv_length _).trans hl_p) (bv_one _) rfl ((bv_length _).trans (by first | (simp; done) | (simp [*]; done) | (simp; omega))) rfl (by intro X h; cases h; exact fun e => ((apart_of_get hM.apart (i := 0) (j := 2) rfl rfl (by decide)).1 _ (.head _)).1 (by rw [e]; exact .head _)) ?_; intro w6 hM'; clear hM; have hM := hM'; clear hM'
          simp only [List.set_cons_zero, List.set_cons_succ] at hM
          refine q_nil (q_nx ?_)
          refine o_cut (fun _ => True) ?_
          refine o_re ?_
          refine o_fl rfl ?_
          refine q_nil (q_nx ?_)
          refine o_fl rfl ?_
          refine q_nil (q_nx ?_)
          refine o_weak (fun b => b = b8) (fun _ _ => trivial) ?_
          refine o_or rfl ?_ ?_
          · replace hM : Mem _ _ w6 [_, _, _, _, _, _, _] := hM.pick [1, 0, 2, 3, 4, 5, 6] rfl
            refine s_storeSeg 0 hE rfl rfl hM rfl sz23 ((bv_length _).trans hl_q) (bv_one _) rfl ((bv_length _).trans (by first | (simp; done) | (simp [*]; done) | (simp; omega))) rfl (by intro X h; cases h; rfl) ?_; intro w7 hM'; clear hM; have hM := hM'; clear hM'
            simp only [List.set_cons_zero, List.set_cons_succ] at hM
            refine q_nil (q_nx ?_)
            refine o_cut (fun _ => True) ?_
            refine o_re ?_
            refine o_weak (fun _ => False) (fun _ _ => trivial) ?_
            refine o_leaf rfl rfl ?_
            refine q_nil (q_ph (q_nil ?_))
            replace hE : Env a 133 [(2, _), (3, _), (6, _), (7, _), (8, _)] := hE.sel [2, 3, 6, 7, 8] rfl
            replace hM : Mem _ _ w7 [_, _, _, _, _, _, _] := hM.pick [0, 1, 2, 3, 4, 5, 6] rfl
            refine q_then_n ⟨_, _, hE.sel [2, 3, 6, 7, 8] rfl, hM⟩
          trivial
        trivial
      trivial
    refine o_or rfl ?_ ?_
    · refine s_alloc [32] hE hM zero23 rfl rfl ?_; clear hE a; intro a b8 w4 hE hM'
      clear hM; have hM := hM'; clear hM'
      refine q_nil (q_nx ?_)
      refine o_re ?_
      refine o_fl rfl ?_
      refine q_nil (q_nx ?_)
      refine o_fl rfl ?_
      refine q_nil (q_nx ?_)
      refine o_or rfl ?_ ?_
      · refine s_alloc [32] hE hM zero23 rfl rfl ?_; clear hE a; intro a b7 w5 hE hM'
        clear hM; have hM := hM'; clear hM'
        refine q_nil (q_nx ?_)
        refine o_re ?_
        refine o_fl rfl ?_
        refine q_nil (q_nx ?_)
        refine o_fl rfl ?_
        refine q_nil (q_nx ?_)
        refine o_or rfl ?_ ?_
        · refine s_storeSeg 0 hE rfl rfl hM rfl sz23 ((bv_length _).trans hl_p) (bv_one _) rfl ((bv_length _).trans (by first | (simp; done) | (simp [*]; done) | (simp; omega))) rfl (by intro X h; cases h; exact fun e => ((apart_of_get hM.apart (i := 0) (j := 2) rfl rfl (by decide)).1 _ (.head _)).1 (by rw [e]; exact .head _)) ?_; intro w6 hM'; clear hM; have hM := hM'; clear hM'
          simp only [List.set_cons_zero, List.set_cons_succ] at hM
          refine q_nil (q_nx ?_)
          refine o_cut (fun _ => True) ?_
          refine o_re ?_
          refine o_fl rfl ?_
          refine q_nil (q_nx ?_)
          refine o_fl rfl ?_
          refine q_nil (q_nx ?_)
          refine o_weak (fun b => b = b8) (fun _ _ => trivial) ?_
          refine o_or rfl ?_ ?_
          · replace hM : Mem _ _ w6 [_, _, _, _, _, _, _] := hM.pick [1, 0, 2, 3, 4, 5, 6] rfl
            refine s_storeSeg 0 hE rfl rfl hM rfl sz23 ((bv_length _).trans hl_q) (bv_one _) rfl ((bv_length _).trans (by first | (simp; done) | (simp [*]; done) | (simp; omega))) rfl (by intro X h; cases h; rfl) ?_; intro w7 hM'; clear hM; have hM := hM'; clear hM'
            simp only [List.set_cons_zero, List.set_cons_succ] at hM
            refine q_nil (q_nx ?_)
            refine o_cut (fun _ => True) ?_
            refine o_re ?_
            refine o_weak (fun _ => False) (fun _ _ => trivial) ?_
            refine o_leaf rfl rfl ?_
            refine q_nil (q_ph (q_nil ?_))
            replace hE : Env a 133 [(2, _), (3, _), (6, _), (7, _), (8, _)] := hE.sel [2, 3, 6, 7, 8] rfl
            replace hM : Mem _ _ w7 [_, _, _, _, _, _, _] := hM.pick [0, 1, 2, 3, 4, 5, 6] rfl
            refine q_then_n ⟨_, _, hE.sel [2, 3, 6, 7, 8] rfl, hM⟩
          trivial
        trivial
      trivial
    trivial
  clear hE hM a; rintro a w8 ⟨b8, b7, hE, hM⟩
  refine wp_seq_k (fun K2 hK2 => ?_)
  refine wp_plain [true, true, true, true, true, true] rfl rfl ?_
  refine s_move hE rfl rfl ?_; clear hE a; intro a hE
  refine s_move hE rfl rfl ?_; clear hE a; intro a hE
  refine s_len hE rfl Tryd.underlying42 (rd_slice (hM.get 4 rfl)) rfl ?_; clear hE a; intro a hE
  refine s_min hE rfl rfl rfl ?_; clear hE a; intro a hE
  replace hE := hE.cast 25 rfl (show _ = Value.int .i64 ((min bs.length 100 : Nat) : Int) from congrArg (Value.int .i64) (by split <;> omega))
  have hcap26 := rd_len (hM.get 4 rfl)
  refine s_slice (l := 0) (h := min bs.length 100) (mx' := c) hE rfl (hM.get 4 rfl) slt42 rfl ⟨_, rfl⟩ rfl (by simp) (by first | omega | assumption | (simp; done) | (simp; omega) | decide) (by first | omega | assumption | (simp; done) | (simp; omega) | decide) (by first | omega | assumption | (simp; done) | (simp; omega) | decide) (by first | omega | assumption | (simp; done) | (simp; omega) | decide) rfl ?_; clear hE a; intro a v26 hE hr26 hvb26
  replace hr26 : (rd v26 1 (bs.take (min bs.length 100)).length (c - 0) (bv (bs.take (min bs.length 100)))).holds _ := rd_take (by first | omega | assumption | (simp; done) | (simp; omega) | decide) hr26
  replace hM := hM.addPart 4 rfl hr26 hvb26; clear hr26
  refine s_assign hE rfl rfl ?_; clear hE a; intro a hE
  refine q_nil ?_
  replace hE : Env a 133 [(2, _), (3, _), (6, _), (7, _), (8, _)] := hE.sel [2, 3, 6, 7, 8] rfl
  refine hK2 _ _ ?_
  refine wp_seq_j (fun a w' => ∃ (b9 : Nat), Env a 133 [(2, v26), (3, .pointer (some ⟨b3, 0, none⟩)), (6, .bool false), (7, .pointer (some ⟨b7, 0, none⟩)), (8, .pointer (some ⟨b8, 0, none⟩)), (9, .pointer (some ⟨b9, 0, none⟩))] ∧ Mem w [] w' [blk b9 [bv (wrapD k (l.take (min l.length 100)) n p), bv (tagB k (l.take (min l.length 100)) n (wrapD k (l.take (min l.length 100)) n p))] [32, 32] 29, rd v26 1 (bs.take (min bs.length 100)).length (c - 0) (bv (bs.take (min bs.length 100))), blk b8 [bv q] [32] 23, blk b7 [bv p] [32] 23, blk b4 [bv p, bv q] [32, 32] 49, blk b3 [bv k, [.string (str l)], [.int .u64 ((n : Nat) : Int)]] [32, 1, 1] 26, rd v 1 bs.length c (bv bs), glb 1, tabP]) ?_ ?_
  · refine wp_treeM hM (by kernel_rfl) (fun _ => True) (fun _ => True) (.re [(0, true), (4, true), (1, true), (2, true), (5, true), (6, true), (3, false), (7, false), (8, false), (9, false)] (.fl 2 (.weak (.fl 4 (.or 3 (.re [(7, false), (8, false), (9, false)] (.fl 0 (.fl 0 (.or 7 (.re [(8, false), (9, false)] (.fl 0 (.fl 0 (.or 8 (.cut (.re [(9, false)] (.fl 0 (.fl 0 (.weak (.or 9 (.cut (.re [] (.weak (.leaf 0)))) (.stop))))))) (.stop))))) (.or 8 (.cut (.re [(7, false), (9, false)] (.fl 0 (.fl 0 (.or 7 (.re [(9, false)] (.fl 0 (.fl 0 (.weak (.or 9 (.cut (.re [] (.weak (.leaf 0)))) (.stop)))))) (.stop)))))) (.stop)))))) (.or 8 (.re [(3, false), (7, false), (9, false)] (.fl 0 (.fl 0 (.or 3 (.cut (.re [(7, false), (9, false)] (.fl 0 (.fl 0 (.or 7 (.re [(9, false)] (.fl 0 (.fl 0 (.weak (.or 9 (.cut (.re [] (.weak (.leaf 0)))) (.stop)))))) (.stop)))))) (.stop))))) (.stop))))))) [(0, true), (4, true), (1, true), (2, true), (5, true), (6, true), (3, false), (7, false), (8, false), (9, false)] [(0, [(1, 0), (7, 1), (9, 0)]), (1, [(7, 1), (9, 1)]), (2, [(3, 2), (7, 3), (9, 2)]), (3, [(7, 3), (9, 3)]), (4, [(5, 4), (7, 5), (9, 4)]), (5, [(7, 5), (9, 5)]), (6, [(7, 6), (9, 6)]), (7, [(9, 7)]), (8, [(9, 8)]), (9, [])] (by kernel_rfl) ?_
    intro w9 hM' hww9; clear hM; have hM := hM'; clear hM'
    refine o_re ?_
    refine o_fl rfl ?_
    refine s_fieldAddr hE rfl fo26_0 rfl ?_; clear hE a; intro a hE
    refine s_fieldAddr hE rfl fo26_2 rfl ?_; clear hE a; intro a hE
    refine q_nil (q_nx ?_)
    refine o_weak (fun _ => False) (fun _ _ => trivial) ?_
    refine o_fl rfl ?_
    refine s_loadN hE rfl (hM.get 4 rfl) row23 rfl (by intro X h; cases h; simp) rfl ?_; clear hE a; intro a hE
    refine s_loadN hE rfl (hM.get 4 rfl) row26 rfl (by intro X h; cases h; simp) rfl ?_; clear hE a; intro a hE
    replace hE := hE.cast 29 rfl (show _ = Value.agg ([bv k, [.string (str l)], [.int .u64 ((n : Nat) : Int)]] : List (List Value)).flatten.toArray from (by first | (simp only [List.flatten_cons, List.flatten_nil, List.append_nil, List.append_assoc]; done) | rfl | simp))
    refine s_load1 hE rfl (hM.get 4 rfl) rfl one24 (by intro X h; cases h; simp) rfl ?_; clear hE a; intro a hE
    refine s_loadN hE rfl (hM.get 2 rfl) row23 rfl (by intro X h; cases h; simp) rfl ?_; clear hE a; intro a hE
    refine q_nil (q_nx ?_)
    refine o_or rfl ?_ ?_
    · refine s_call hE rfl Tryd.call15 (label10_c k l n _ hl_k) rfl ?_
      rintro e w10 ⟨rfl, hN⟩
      refine ⟨_, rfl, hN.sta0 _, ?_⟩; clear hE a; intro a hE
      replace hM : Mem _ _ w10 [_, _, _, _, _, _, _, _] := hM.call0 hN trivial; clear hN
      refine q_nil (q_nx ?_)
      refine o_re ?_
      refine o_fl rfl ?_
      refine q_nil (q_nx ?_)
      refine o_fl rfl ?_
      refine q_nil (q_nx ?_)
      refine o_or rfl ?_ ?_
      · refine s_call hE rfl Tryd.call14 (wrap_c k (l.take (min l.length 100)) n p _ (hM.get 6 rfl) (hM.get 7 rfl) hl_k hl_p (by have hl_0 : k.length = 32 := hl_k; have hl_1 : (l.take (min l.length 100)).length = min l.length 100 := (by rw [List.length_take]; omega); have hl_3 : p.length = 32 := hl_p; first | omega | assumption | (simp; done) | (simp; omega) | decide) (by have hl_0 : k.length = 32 := hl_k; have hl_1 : (l.take (min l.length 100)).length = min l.length 100 := (by rw [List.length_take]; omega); have hl_3 : p.length = 32 := hl_p; first | omega | assumption | (simp; done) | (simp; omega) | decide)) rfl ?_
        rintro e w11 ⟨rfl, hN⟩
        refine ⟨_, rfl, hN.sta0 _, ?_⟩; clear hE a; intro a hE
        replace hM : Mem _ _ w11 [_, _, _, _, _, _, _, _] := hM.call0 hN trivial; clear hN
        refine q_nil (q_nx ?_)
        refine o_re ?_
        refine o_fl rfl ?_
        refine q_nil (q_nx ?_)
        refine o_fl rfl ?_
        refine q_nil (q_nx ?_)
        refine o_or rfl ?_ ?_
        · refine s_alloc [32, 32] hE hM zero29 rfl rfl ?_; clear hE a; intro a b9 w12 hE hM'
          clear hM; have hM := hM'; clear hM'
          refine q_nil (q_nx ?_)
          refine o_cut (fun _ => True) ?_
          refine o_re ?_
          refine o_fl rfl ?_
          refine q_nil (q_nx ?_)
          refine o_fl rfl ?_
          refine q_nil (q_nx ?_)
          refine o_weak (fun b => b = b9) (fun _ _ => trivial) ?_
          refine o_or rfl ?_ ?_
          · refine s_storeSegs 0 2 (vss := [bv (wrapD k (l.take (min l.length 100)) n p), bv (tagB k (l.take (min l.length 100)) n (wrapD k (l.take (min l.length 100)) n p))]) hE rfl rfl hM rfl sz29 (by have hl_s0 : (wrapD k (l.take (min l.length 100)) n p).length = 32 := (wrapD_len (k := k) (l := (l.take (min l.length 100))) (n := n) (x := p) (by have hl_ax : p.length = 32 := hl_p; first | assumption | (simp; done))); have hl_s1 : (tagB k (l.take (min l.length 100)) n (wrapD k (l.take (min l.length 100)) n p)).length = 32 := (tagB_len k (l.take (min l.length 100)) n (wrapD k (l.take (min l.length 100)) n p));  simp only [List.map_cons, List.map_nil, bv_length, List.length_cons, List.length_nil, List.take_succ_cons, List.take_zero, List.drop_zero, List.drop_succ_cons, hl_s0, hl_s1]) (by decide) rfl (one_fl ⟨bv_one _, bv_one _, trivial⟩) rfl (by intro X h; cases h; rfl) ?_; intro w13 hM'; clear hM; have hM := hM'; clear hM'
            simp only [List.take_zero, List.take_succ_cons, List.drop_zero, List.drop_succ_cons, List.take_nil, List.drop_nil, List.nil_append, List.append_nil, List.cons_append] at hM
            refine q_nil (q_nx ?_)
            refine o_cut (fun _ => True) ?_
            refine o_re ?_
            refine o_weak (fun _ => False) (fun _ _ => trivial) ?_
            refine o_leaf rfl rfl ?_
            refine q_nil (q_ph (q_nil ?_))
            replace hE : Env a 133 [(2, _), (3, _), (6, _), (7, _), (8, _), (9, _)] := hE.sel [2, 3, 6, 7, 8, 9] rfl
            replace hM : Mem _ _ w13 [_, _, _, _, _, _, _, _, _] := hM.pick [0, 1, 2, 3, 4, 5, 6, 7, 8] rfl
            refine q_then_n ⟨_, hE.sel [2, 3, 6, 7, 8, 9] rfl, hM⟩
          trivial
        trivial
      refine o_or rfl ?_ ?_
      · refine s_alloc [32, 32] hE hM zero29 rfl rfl ?_; clear hE a; intro a b9 w11 hE hM'
        clear hM; have hM := hM'; clear hM'
        refine q_nil (q_nx ?_)
        refine o_cut (fun _ => True) ?_
        refine o_re ?_
        refine o_fl rfl ?_
        refine q_nil (q_nx ?_)
        refine o_fl rfl ?_
        refine q_nil (q_nx ?_)
        refine o_or rfl ?_ ?_
        · refine s_call hE rfl Tryd.call14 (wrap_c k (l.take (min l.length 100)) n p _ (hM.get 7 rfl) (hM.get 8 rfl) hl_k hl_p (by have hl_0 : k.length = 32 := hl_k; have hl_1 : (l.take (min l.length 100)).length = min l.length 100 := (by rw [List.length_take]; omega); have hl_3 : p.length = 32 := hl_p; first | omega | assumption | (simp; done) | (simp; omega) | decide) (by have hl_0 : k.length = 32 := hl_k; have hl_1 : (l.take (min l.length 100)).length = min l.length 100 := (by rw [List.length_take]; omega); have hl_3 : p.length = 32 := hl_p; first | omega | assumption | (simp; done) | (simp; omega) | decide)) rfl ?_
          rintro e w12 ⟨rfl, hN⟩
          refine ⟨_, rfl, hN.sta0 _, ?_⟩; clear hE a; intro a hE
          replace hM : Mem _ _ w12 [_, _, _, _, _, _, _, _, _] := hM.call0 hN trivial; clear hN
          refine q_nil (q_nx ?_)
          refine o_re ?_
          refine o_fl rfl ?_
          refine q_nil (q_nx ?_)
          refine o_fl rfl ?_
          refine q_nil (q_nx ?_)
          refine o_weak (fun b => b = b9) (fun _ _ => trivial) ?_
          refine o_or rfl ?_ ?_
          · refine s_storeSegs 0 2 (vss := [bv (wrapD k (l.take (min l.length 100)) n p), bv (tagB k (l.take (min l.length 100)) n (wrapD k (l.take (min l.length 100)) n p))]) hE rfl rfl hM rfl sz29 (by have hl_s0 : (wrapD k (l.take (min l.length 100)) n p).length = 32 := (wrapD_len (k := k) (l := (l.take (min l.length 100))) (n := n) (x := p) (by have hl_ax : p.length = 32 := hl_p; first | assumption | (simp; done))); have hl_s1 : (tagB k (l.take (min l.length 100)) n (wrapD k (l.take (min l.length 100)) n p)).length = 32 := (tagB_len k (l.take (min l.length 100)) n (wrapD k (l.take (min l.length 100)) n p));  simp only [List.map_cons, List.map_nil, bv_length, List.length_cons, List.length_nil, List.take_succ_cons, List.take_zero, List.drop_zero, List.drop_succ_cons, hl_s0, hl_s1]) (by decide) rfl (one_fl ⟨bv_one _, bv_one _, trivial⟩) rfl (by intro X h; cases h; rfl) ?_; intro w13 hM'; clear hM; have hM := hM'; clear hM'
            simp only [List.take_zero, List.take_succ_cons, List.drop_zero, List.drop_succ_cons, List.take_nil, List.drop_nil, List.nil_append, List.append_nil, List.cons_append] at hM
            refine q_nil (q_nx ?_)
            refine o_cut (fun _ => True) ?_
            refine o_re ?_
            refine o_weak (fun _ => False) (fun _ _ => trivial) ?_
            refine o_leaf rfl rfl ?_
            refine q_nil (q_ph (q_nil ?_))
            replace hE : Env a 133 [(2, _), (3, _), (6, _), (7, _), (8, _), (9, _)] := hE.sel [2, 3, 6, 7, 8, 9] rfl
            replace hM : Mem _ _ w13 [_, _, _, _, _, _, _, _, _] := hM.pick [0, 1, 2, 3, 4, 5, 6, 7, 8] rfl
            refine q_then_n ⟨_, hE.sel [2, 3, 6, 7, 8, 9] rfl, hM⟩
          trivial
        trivial
      trivial
    refine o_or rfl ?_ ?_
    · refine s_alloc [32, 32] hE hM zero29 rfl rfl ?_; clear hE a; intro a b9 w10 hE hM'
      clear hM; have hM := hM'; clear hM'
      refine q_nil (q_nx ?_)
      refine o_re ?_
      refine o_fl rfl ?_
      refine q_nil (q_nx ?_)
      refine o_fl rfl ?_
      refine q_nil (q_nx ?_)
      refine o_or rfl ?_ ?_
      · refine s_call hE rfl Tryd.call15 (label10_c k l n _ hl_k) rfl ?_
        rintro e w11 ⟨rfl, hN⟩
        refine ⟨_, rfl, hN.sta0 _, ?_⟩; clear hE a; intro a hE
        replace hM : Mem _ _ w11 [_, _, _, _, _, _, _, _, _] := hM.call0 hN trivial; clear hN
        refine q_nil (q_nx ?_)
        refine o_cut (fun _ => True) ?_
        refine o_re ?_
        refine o_fl rfl ?_
        refine q_nil (q_nx ?_)
        refine o_fl rfl ?_
        refine q_nil (q_nx ?_)
        refine o_or rfl ?_ ?_
        · refine s_call hE rfl Tryd.call14 (wrap_c k (l.take (min l.length 100)) n p _ (hM.get 7 rfl) (hM.get 8 rfl) hl_k hl_p (by have hl_0 : k.length = 32 := hl_k; have hl_1 : (l.take (min l.length 100)).length = min l.length 100 := (by rw [List.length_take]; omega); have hl_3 : p.length = 32 := hl_p; first | omega | assumption | (simp; done) | (simp; omega) | decide) (by have hl_0 : k.length = 32 := hl_k; have hl_1 : (l.take (min l.length 100)).length = min l.length 100 := (by rw [List.length_take]; omega); have hl_3 : p.length = 32 := hl_p; first | omega | assumption | (simp; done) | (simp; omega) | decide)) rfl ?_
          rintro e w12 ⟨rfl, hN⟩
          refine ⟨_, rfl, hN.sta0 _, ?_⟩; clear hE a; intro a hE
          replace hM : Mem _ _ w12 [_, _, _, _, _, _, _, _, _] := hM.call0 hN trivial; clear hN
          refine q_nil (q_nx ?_)
          refine o_re ?_
          refine o_fl rfl ?_
          refine q_nil (q_nx ?_)
          refine o_fl rfl ?_
          refine q_nil (q_nx ?_)
          refine o_weak (fun b => b = b9) (fun _ _ => trivial) ?_
          refine o_or rfl ?_ ?_
          · refine s_storeSegs 0 2 (vss := [bv (wrapD k (l.take (min l.length 100)) n p), bv (tagB k (l.take (min l.length 100)) n (wrapD k (l.take (min l.length 100)) n p))]) hE rfl rfl hM rfl sz29 (by have hl_s0 : (wrapD k (l.take (min l.length 100)) n p).length = 32 := (wrapD_len (k := k) (l := (l.take (min l.length 100))) (n := n) (x := p) (by have hl_ax : p.length = 32 := hl_p; first | assumption | (simp; done))); have hl_s1 : (tagB k (l.take (min l.length 100)) n (wrapD k (l.take (min l.length 100)) n p)).length = 32 := (tagB_len k (l.take (min l.length 100)) n (wrapD k (l.take (min l.length 100)) n p));  simp only [List.map_cons, List.map_nil, bv_length, List.length_cons, List.length_nil, List.take_succ_cons, List.take_zero, List.drop_zero, List.drop_succ_cons, hl_s0, hl_s1]) (by decide) rfl (one_fl ⟨bv_one _, bv_one _, trivial⟩) rfl (by intro X h; cases h; rfl) ?_; intro w13 hM'; clear hM; have hM := hM'; clear hM'
            simp only [List.take_zero, List.take_succ_cons, List.drop_zero, List.drop_succ_cons, List.take_nil, List.drop_nil, List.nil_append, List.append_nil, List.cons_append] at hM
            refine q_nil (q_nx ?_)
            refine o_cut (fun _ => True) ?_
            refine o_re ?_
            refine o_weak (fun _ => False) (fun _ _ => trivial) ?_
            refine o_leaf rfl rfl ?_
            refine q_nil (q_ph (q_nil ?_))
            replace hE : Env a 133 [(2, _), (3, _), (6, _), (7, _), (8, _), (9, _)] := hE.sel [2, 3, 6, 7, 8, 9] rfl
            replace hM : Mem _ _ w13 [_, _, _, _, _, _, _, _, _] := hM.pick [0, 1, 2, 3, 4, 5, 6, 7, 8] rfl
            refine q_then_n ⟨_, hE.sel [2, 3, 6, 7, 8, 9] rfl, hM⟩
          trivial
        trivial
      trivial
    trivial
  clear hE hM a; rintro a w14 ⟨b9, hE, hM⟩
  refine wp_seq_j (fun a w' => ∃ (b10 : Nat), Env a 133 [(2, v26), (3, .pointer (some ⟨b3, 0, none⟩)), (6, .bool false), (7, .pointer (some ⟨b7, 0, none⟩)), (8, .pointer (some ⟨b8, 0, none⟩)), (9, .pointer (some ⟨b9, 0, none⟩)), (10, .pointer (some ⟨b10, 0, none⟩))] ∧ Mem w [] w' [blk b10 [bv (wrapD k (l.take (min l.length 100)) n q), bv (tagB k (l.take (min l.length 100)) n (wrapD k (l.take (min l.length 100)) n q))] [32, 32] 29, blk b9 [bv (wrapD k (l.take (min l.length 100)) n p), bv (tagB k (l.take (min l.length 100)) n (wrapD k (l.take (min l.length 100)) n p))] [32, 32] 29, rd v26 1 (bs.take (min bs.length 100)).length (c - 0) (bv (bs.take (min bs.length 100))), blk b8 [bv q] [32] 23, blk b7 [bv p] [32] 23, blk b4 [bv p, bv q] [32, 32] 49, blk b3 [bv k, [.string (str l)], [.int .u64 ((n : Nat) : Int)]] [32, 1, 1] 26, rd v 1 bs.length c (bv bs), glb 1, tabP]) ?_ ?_
  · refine wp_treeM hM (by kernel_rfl) (fun _ => True) (fun _ => True) (.re [(0, true), (4, true), (1, true), (2, true), (5, true), (6, true), (3, false), (7, false), (8, false), (9, false)] (.fl 2 (.weak (.fl 4 (.or 3 (.re [(7, false), (8, false), (9, false)] (.fl 0 (.fl 0 (.or 7 (.re [(8, false), (9, false)] (.fl 0 (.fl 0 (.or 8 (.cut (.re [(9, false)] (.fl 0 (.fl 0 (.weak (.or 9 (.cut (.re [] (.weak (.leaf 0)))) (.stop))))))) (.stop))))) (.or 8 (.cut (.re [(7, false), (9, false)] (.fl 0 (.fl 0 (.or 7 (.re [(9, false)] (.fl 0 (.fl 0 (.weak (.or 9 (.cut (.re [] (.weak (.leaf 0)))) (.stop)))))) (.stop)))))) (.stop)))))) (.or 8 (.re [(3, false), (7, false), (9, false)] (.fl 0 (.fl 0 (.or 3 (.cut (.re [(7, false), (9, false)] (.fl 0 (.fl 0 (.or 7 (.re [(9, false)] (.fl 0 (.fl 0 (.weak (.or 9 (.cut (.re [] (.weak (.leaf 0)))) (.stop)))))) (.stop)))))) (.stop))))) (.stop))))))) [(0, true), (4, true), (1, true), (2, true), (5, true), (6, true), (3, false), (7, false), (8, false), (9, false)] [(0, [(1, 0), (7, 1), (9, 0)]), (1, [(7, 1), (9, 1)]), (2, [(3, 2), (7, 3), (9, 2)]), (3, [(7, 3), (9, 3)]), (4, [(5, 4), (7, 5), (9, 4)]), (5, [(7, 5), (9, 5)]), (6, [(7, 6), (9, 6)]), (7, [(9, 7)]), (8, [(9, 8)]), (9, [])] (by kernel_rfl) ?_
    intro w15 hM' hww15; clear hM; have hM := hM'; clear hM'
    refine o_re ?_
    refine o_fl rfl ?_
    refine s_fieldAddr hE rfl fo26_0 rfl ?_; clear hE a; intro a hE
    refine s_fieldAddr hE rfl fo26_2 rfl ?_; clear hE a; intro a hE
    refine q_nil (q_nx ?_)
    refine o_weak (fun _ => False) (fun _ _ => trivial) ?_
    refine o_fl rfl ?_
    refine s_loadN hE rfl (hM.get 5 rfl) row23 rfl (by intro X h; cases h; simp) rfl ?_; clear hE a; intro a hE
    refine s_loadN hE rfl (hM.get 5 rfl) row26 rfl (by intro X h; cases h; simp) rfl ?_; clear hE a; intro a hE
    replace hE := hE.cast 37 rfl (show _ = Value.agg ([bv k, [.string (str l)], [.int .u64 ((n : Nat) : Int)]] : List (List Value)).flatten.toArray from (by first | (simp only [List.flatten_cons, List.flatten_nil, List.append_nil, List.append_assoc]; done) | rfl | simp))
    refine s_load1 hE rfl (hM.get 5 rfl) rfl one24 (by intro X h; cases h; simp) rfl ?_; clear hE a; intro a hE
    refine s_loadN hE rfl (hM.get 2 rfl) row23 rfl (by intro X h; cases h; simp) rfl ?_; clear hE a; intro a hE
    refine q_nil (q_nx ?_)
    refine o_or rfl ?_ ?_
    · refine s_call hE rfl Tryd.call15 (label10_c k l n _ hl_k) rfl ?_
      rintro e w16 ⟨rfl, hN⟩
      refine ⟨_, rfl, hN.sta0 _, ?_⟩; clear hE a; intro a hE
      replace hM : Mem _ _ w16 [_, _, _, _, _, _, _, _, _] := hM.call0 hN trivial; clear hN
      refine q_nil (q_nx ?_)
      refine o_re ?_
      refine o_fl rfl ?_
      refine q_nil (q_nx ?_)
      refine o_fl rfl ?_
      refine q_nil (q_nx ?_)
      refine o_or rfl ?_ ?_
      · refine s_call hE rfl Tryd.call14 (wrap_c k (l.take (min l.length 100)) n q _ (hM.get 7 rfl) (hM.get 8 rfl) hl_k hl_q (by have hl_0 : k.length = 32 := hl_k; have hl_1 : (l.take (min l.length 100)).length = min l.length 100 := (by rw [List.length_take]; omega); have hl_3 : q.length = 32 := hl_q; first | omega | assumption | (simp; done) | (simp; omega) | decide) (by have hl_0 : k.length = 32 := hl_k; have hl_1 : (l.take (min l.length 100)).length = min l.length 100 := (by rw [List.length_take]; omega); have hl_3 : q.length = 32 := hl_q; first | omega | assumption | (simp; done) | (simp; omega) | decide)) rfl ?_
        rintro e w17 ⟨rfl, hN⟩
        refine ⟨_, rfl, hN.sta0 _, ?_⟩; clear hE a; intro a hE
        replace hM : Mem _ _ w17 [_, _, _, _, _, _, _, _, _] := hM.call0 hN trivial; clear hN
        refine q_nil (q_nx ?_)
        refine o_re ?_
        refine o_fl rfl ?_
        refine q_nil (q_nx ?_)
        refine o_fl rfl ?_
        refine q_nil (q_nx ?_)
        refine o_or rfl ?_ ?_
        · refine s_alloc [32, 32] hE hM zero29 rfl rfl ?_; clear hE a; intro a b10 w18 hE hM'
          clear hM; have hM := hM'; clear hM'
          refine q_nil (q_nx ?_)
          refine o_cut (fun _ => True) ?_
          refine o_re ?_
          refine o_fl rfl ?_
          refine q_nil (q_nx ?_)
          refine o_fl rfl ?_
          refine q_nil (q_nx ?_)
          refine o_weak (fun b => b = b10) (fun _ _ => trivial) ?_
          refine o_or rfl ?_ ?_
          · refine s_storeSegs 0 2 (vss := [bv (wrapD k (l.take (min l.length 100)) n q), bv (tagB k (l.take (min l.length 100)) n (wrapD k (l.take (min l.length 100)) n q))]) hE rfl rfl hM rfl sz29 (by have hl_s0 : (wrapD k (l.take (min l.length 100)) n q).length = 32 := (wrapD_len (k := k) (l := (l.take (min l.length 100))) (n := n) (x := q) (by have hl_ax : q.length = 32 := hl_q; first | assumption | (simp; done))); have hl_s1 : (tagB k (l.take (min l.length 100)) n (wrapD k (l.take (min l.length 100)) n q)).length = 32 := (tagB_len k (l.take (min l.length 100)) n (wrapD k (l.take (min l.length 100)) n q));  simp only [List.map_cons, List.map_nil, bv_length, List.length_cons, List.length_nil, List.take_succ_cons, List.take_zero, List.drop_zero, List.drop_succ_cons, hl_s0, hl_s1]) (by decide) rfl (one_fl ⟨bv_one _, bv_one _, trivial⟩) rfl (by intro X h; cases h; rfl) ?_; intro w19 hM'; clear hM; have hM := hM'; clear hM'
            simp only [List.take_zero, List.take_succ_cons, List.drop_zero, List.drop_succ_cons, List.take_nil, List.drop_nil, List.nil_append, List.append_nil, List.cons_append] at hM
            refine q_nil (q_nx ?_)
            refine o_cut (fun _ => True) ?_
            refine o_re ?_
            refine o_weak (fun _ => False) (fun _ _ => trivial) ?_
            refine o_leaf rfl rfl ?_
            refine q_nil (q_ph (q_nil ?_))
            replace hE : Env a 133 [(2, _), (3, _), (6, _), (7, _), (8, _), (9, _), (10, _)] := hE.sel [2, 3, 6, 7, 8, 9, 10] rfl
            replace hM : Mem _ _ w19 [_, _, _, _, _, _, _, _, _, _] := hM.pick [0, 1, 2, 3, 4, 5, 6, 7, 8, 9] rfl
            refine q_then_n ⟨_, hE.sel [2, 3, 6, 7, 8, 9, 10] rfl, hM⟩
          trivial
        trivial
      refine o_or rfl ?_ ?_
      · refine s_alloc [32, 32] hE hM zero29 rfl rfl ?_; clear hE a; intro a b10 w17 hE hM'
        clear hM; have hM := hM'; clear hM'
        refine q_nil (q_nx ?_)
        refine o_cut (fun _ => True) ?_
        refine o_re ?_
        refine o_fl rfl ?_
        refine q_nil (q_nx ?_)
        refine o_fl rfl ?_
        refine q_nil (q_nx ?_)
        refine o_or rfl ?_ ?_
        · refine s_call hE rfl Tryd.call14 (wrap_c k (l.take (min l.length 100)) n q _ (hM.get 8 rfl) (hM.get 9 rfl) hl_k hl_q (by have hl_0 : k.length = 32 := hl_k; have hl_1 : (l.take (min l.length 100)).length = min l.length 100 := (by rw [List.length_take]; omega); have hl_3 : q.length = 32 := hl_q; first | omega | assumption | (simp; done) | (simp; omega) | decide) (by have hl_0 : k.length = 32 := hl_k; have hl_1 : (l.take (min l.length 100)).length = min l.length 100 := (by rw [List.length_take]; omega); have hl_3 : q.length = 32 := hl_q; first | omega | assumption | (simp; done) | (simp; omega) | decide)) rfl ?_
          rintro e w18 ⟨rfl, hN⟩
          refine ⟨_, rfl, hN.sta0 _, ?_⟩; clear hE a; intro a hE
          replace hM : Mem _ _ w18 [_, _, _, _, _, _, _, _, _, _] := hM.call0 hN trivial; clear hN
          refine q_nil (q_nx ?_)
          refine o_re ?_
          refine o_fl rfl ?_
          refine q_nil (q_nx ?_)
          refine o_fl rfl ?_
          refine q_nil (q_nx ?_)
          refine o_weak (fun b => b = b10) (fun _ _ => trivial) ?_
          refine o_or rfl ?_ ?_
          · refine s_storeSegs 0 2 (vss := [bv (wrapD k (l.take (min l.length 100)) n q), bv (tagB k (l.take (min l.length 100)) n (wrapD k (l.take (min l.length 100)) n q))]) hE rfl rfl hM rfl sz29 (by have hl_s0 : (wrapD k (l.take (min l.length 100)) n q).length = 32 := (wrapD_len (k := k) (l := (l.take (min l.length 100))) (n := n) (x := q) (by have hl_ax : q.length = 32 := hl_q; first | assumption | (simp; done))); have hl_s1 : (tagB k (l.take (min l.length 100)) n (wrapD k (l.take (min l.length 100)) n q)).length = 32 := (tagB_len k (l.take (min l.length 100)) n (wrapD k (l.take (min l.length 100)) n q));  simp only [List.map_cons, List.map_nil, bv_length, List.length_cons, List.length_nil, List.take_succ_cons, List.take_zero, List.drop_zero, List.drop_succ_cons, hl_s0, hl_s1]) (by decide) rfl (one_fl ⟨bv_one _, bv_one _, trivial⟩) rfl (by intro X h; cases h; rfl) ?_; intro w19 hM'; clear hM; have hM := hM'; clear hM'
            simp only [List.take_zero, List.take_succ_cons, List.drop_zero, List.drop_succ_cons, List.take_nil, List.drop_nil, List.nil_append, List.append_nil, List.cons_append] at hM
            refine q_nil (q_nx ?_)
            refine o_cut (fun _ => True) ?_
            refine o_re ?_
            refine o_weak (fun _ => False) (fun _ _ => trivial) ?_
            refine o_leaf rfl rfl ?_
            refine q_nil (q_ph (q_nil ?_))
            replace hE : Env a 133 [(2, _), (3, _), (6, _), (7, _), (8, _), (9, _), (10, _)] := hE.sel [2, 3, 6, 7, 8, 9, 10] rfl
            replace hM : Mem _ _ w19 [_, _, _, _, _, _, _, _, _, _] := hM.pick [0, 1, 2, 3, 4, 5, 6, 7, 8, 9] rfl
            refine q_then_n ⟨_, hE.sel [2, 3, 6, 7, 8, 9, 10] rfl, hM⟩
          trivial
        trivial
      trivial
    refine o_or rfl ?_ ?_
    · refine s_alloc [32, 32] hE hM zero29 rfl rfl ?_; clear hE a; intro a b10 w16 hE hM'
      clear hM; have hM := hM'; clear hM'
      refine q_nil (q_nx ?_)
      refine o_re ?_
      refine o_fl rfl ?_
      refine q_nil (q_nx ?_)
      refine o_fl rfl ?_
      refine q_nil (q_nx ?_)
      refine o_or rfl ?_ ?_
      · refine s_call hE rfl Tryd.call15 (label10_c k l n _ hl_k) rfl ?_
        rintro e w17 ⟨rfl, hN⟩
        refine ⟨_, rfl, hN.sta0 _, ?_⟩; clear hE a; intro a hE
        replace hM : Mem _ _ w17 [_, _, _, _, _, _, _, _, _, _] := hM.call0 hN trivial; clear hN
        refine q_nil (q_nx ?_)
        refine o_cut (fun _ => True) ?_
        refine o_re ?_
        refine o_fl rfl ?_
        refine q_nil (q_nx ?_)
        refine o_fl rfl ?_
        refine q_nil (q_nx ?_)
        refine o_or rfl ?_ ?_
        · refine s_call hE rfl Tryd.call14 (wrap_c k (l.take (min l.length 100)) n q _ (hM.get 8 rfl) (hM.get 9 rfl) hl_k hl_q (by have hl_0 : k.length = 32 := hl_k; have hl_1 : (l.take (min l.length 100)).length = min l.length 100 := (by rw [List.length_take]; omega); have hl_3 : q.length = 32 := hl_q; first | omega | assumption | (simp; done) | (simp; omega) | decide) (by have hl_0 : k.length = 32 := hl_k; have hl_1 : (l.take (min l.length 100)).length = min l.length 100 := (by rw [List.length_take]; omega); have hl_3 : q.length = 32 := hl_q; first | omega | assumption | (simp; done) | (simp; omega) | decide)) rfl ?_
          rintro e w18 ⟨rfl, hN⟩
          refine ⟨_, rfl, hN.sta0 _, ?_⟩; clear hE a; intro a hE
          replace hM : Mem _ _ w18 [_, _, _, _, _, _, _, _, _, _] := hM.call0 hN trivial; clear hN
          refine q_nil (q_nx ?_)
          refine o_re ?_
          refine o_fl rfl ?_
          refine q_nil (q_nx ?_)
          refine o_fl rfl ?_
          refine q_nil (q_nx ?_)
          refine o_weak (fun b => b = b10) (fun _ _ => trivial) ?_
          refine o_or rfl ?_ ?_
          · refine s_storeSegs 0 2 (vss := [bv (wrapD k (l.take (min l.length 100)) n q), bv (tagB k (l.take (min l.length 100)) n (wrapD k (l.take (min l.length 100)) n q))]) hE rfl rfl hM rfl sz29 (by have hl_s0 : (wrapD k (l.take (min l.length 100)) n q).length = 32 := (wrapD_len (k := k) (l := (l.take (min l.length 100))) (n := n) (x := q) (by have hl_ax : q.length = 32 := hl_q; first | assumption | (simp; done))); have hl_s1 : (tagB k (l.take (min l.length 100)) n (wrapD k (l.take (min l.length 100)) n q)).length = 32 := (tagB_len k (l.take (min l.length 100)) n (wrapD k (l.take (min l.length 100)) n q));  simp only [List.map_cons, List.map_nil, bv_length, List.length_cons, List.length_nil, List.take_succ_cons, List.take_zero, List.drop_zero, List.drop_succ_cons, hl_s0, hl_s1]) (by decide) rfl (one_fl ⟨bv_one _, bv_one _, trivial⟩) rfl (by intro X h; cases h; rfl) ?_; intro w19 hM'; clear hM; have hM := hM'; clear hM'
            simp only [List.take_zero, List.take_succ_cons, List.drop_zero, List.drop_succ_cons, List.take_nil, List.drop_nil, List.nil_append, List.append_nil, List.cons_append] at hM
            refine q_nil (q_nx ?_)
            refine o_cut (fun _ => True) ?_
            refine o_re ?_
            refine o_weak (fun _ => False) (fun _ _ => trivial) ?_
            refine o_leaf rfl rfl ?_
            refine q_nil (q_ph (q_nil ?_))
            replace hE : Env a 133 [(2, _), (3, _), (6, _), (7, _), (8, _), (9, _), (10, _)] := hE.sel [2, 3, 6, 7, 8, 9, 10] rfl
            replace hM : Mem _ _ w19 [_, _, _, _, _, _, _, _, _, _] := hM.pick [0, 1, 2, 3, 4, 5, 6, 7, 8, 9] rfl
            refine q_then_n ⟨_, hE.sel [2, 3, 6, 7, 8, 9, 10] rfl, hM⟩
          trivial
        trivial
      trivial
    trivial
  clear hE hM a; rintro a w20 ⟨b10, hE, hM⟩
  refine wp_seq_k (fun K3 hK3 => ?_)
  refine wp_seq_k (fun K4 hK4 => ?_)
  refine wp_plain [true] rfl rfl ?_
  refine s_assign hE rfl rfl ?_; clear hE a; intro a hE
  refine q_nil ?_
  refine hK4 _ _ ?_
  refine wp_block ?_
  refine c_loop (fun (i : Nat) a w' => i ≤ 32 ∧ Env a 133 [(2, v26), (3, .pointer (some ⟨b3, 0, none⟩)), (6, .bool false), (7, .pointer (some ⟨b7, 0, none⟩)), (8, .pointer (some ⟨b8, 0, none⟩)), (9, .pointer (some ⟨b9, 0, none⟩)), (10, .pointer (some ⟨b10, 0, none⟩)), (11, .int .i64 ((i : Nat) : Int))] ∧ Mem w [] w' [blk b10 [bv (wrapD k (l.take (min l.length 100)) n q), bv (tagB k (l.take (min l.length 100)) n (wrapD k (l.take (min l.length 100)) n q))] [32, 32] 29, blk b9 [bv (wrapD k (l.take (min l.length 100)) n p), bv (tagB k (l.take (min l.length 100)) n (wrapD k (l.take (min l.length 100)) n p))] [32, 32] 29, rd v26 1 (bs.take (min bs.length 100)).length (c - 0) (bv (bs.take (min bs.length 100))), blk b8 [bv q] [32] 23, blk b7 [bv p] [32] 23, blk b4 [bv p, bv q] [32, 32] 49, blk b3 [bv k, [.string (str l)], [.int .u64 ((n : Nat) : Int)]] [32, 1, 1] 26, rd v 1 bs.length c (bv bs), glb 1, tabP]) (fun i => 32 - i) 0 ⟨Nat.zero_le _, hE.sel [2, 3, 6, 7, 8, 9, 10, 11] rfl, hM⟩ ?_
  clear hE hM a; rintro i a w21 ⟨hi, hE, hM⟩
  refine wp_seq_k (fun K5 hK5 => ?_)
  refine wp_seq_k (fun K6 hK6 => ?_)
  refine wp_plain [true, true] rfl rfl ?_
  refine s_move hE rfl rfl ?_; clear hE a; intro a hE
  refine s_bin hE rfl rfl bin_lss rfl ?_; clear hE a; intro a hE
  refine q_nil ?_
  replace hE : Env a 133 [(2, _), (3, _), (6, _), (7, _), (8, _), (9, _), (10, _), (11, _), (44, _)] := hE.sel [2, 3, 6, 7, 8, 9, 10, 11, 44] rfl
  refine hK6 _ _ ?_
  refine hE.split 44 rfl (fun hb44 hE' => ?_) (fun hb44 hE' => ?_)
  · replace hE := hE'; clear hE'
    replace hb44 := of_decide_eq_true hb44
    replace hb44 : i < 32 := by omega
    replace hb44 : i < 32 := by omega
    refine wp_cond_true (hE.eval rfl) ?_
    refine wp_skip ?_
    refine hK5 _ _ ?_
    refine wp_seq_k (fun K7 hK7 => ?_)
    refine wp_block ?_
    refine wp_seq_k (fun K8 hK8 => ?_)
    refine wp_drawnM hM (by kernel_rfl) (fun _ => False) [(0, true), (1, true), (2, true), (3, true), (4, true), (5, true), (6, true), (7, true), (8, true), (9, true), (10, true), (11, true), (12, true), (13, true), (14, true), (15, true), (16, true)] [] (by kernel_rfl) rfl ?_
    intro w22 hM' hww22; clear hM; have hM := hM'; clear hM'
    refine s_move hE rfl rfl ?_; clear hE a; intro a hE
    refine s_fieldAddr hE rfl fo29_0 rfl ?_; clear hE a; intro a hE
    refine s_indexArr (j := i) hE rfl rfl arr23 (by first | rfl | omega) (by first | omega | decide) rfl ?_; clear hE a; intro a hE
    refine s_loadPart8 (j := i) (g := wrapD k (l.take (min l.length 100)) n p) 0 hE rfl (by first | rfl | omega | (simp; done) | (simp; omega)) (hM.get 1 rfl) rfl (by have hl_ : (wrapD k (l.take (min l.length 100)) n p).length = 32 := (wrapD_len (k := k) (l := (l.take (min l.length 100))) (n := n) (x := p) (by have hl_ax : p.length = 32 := hl_p; first | assumption | (simp; done))); first | omega | (rw [bv_length]; omega) | (simp; omega)) one5 (by intro X h; cases h; simp) rfl ?_; clear hE a; intro a hE
    refine s_move hE rfl rfl ?_; clear hE a; intro a hE
    refine s_fieldAddr hE rfl fo29_0 rfl ?_; clear hE a; intro a hE
    refine s_indexArr (j := i) hE rfl rfl arr23 (by first | rfl | omega) (by first | omega | decide) rfl ?_; clear hE a; intro a hE
    refine s_loadPart8 (j := i) (g := wrapD k (l.take (min l.length 100)) n q) 0 hE rfl (by first | rfl | omega | (simp; done) | (simp; omega)) (hM.get 0 rfl) rfl (by have hl_ : (wrapD k (l.take (min l.length 100)) n q).length = 32 := (wrapD_len (k := k) (l := (l.take (min l.length 100))) (n := n) (x := q) (by have hl_ax : q.length = 32 := hl_q; first | assumption | (simp; done))); first | omega | (rw [bv_length]; omega) | (simp; omega)) one5 (by intro X h; cases h; simp) rfl ?_; clear hE a; intro a hE
    refine s_bin hE rfl rfl (bin_xor8 (x := (wrapD k (l.take (min l.length 100)) n p).getD i 0) (y := (wrapD k (l.take (min l.length 100)) n q).getD i 0)) rfl ?_; clear hE a; intro a hE
    refine s_move hE rfl rfl ?_; clear hE a; intro a hE
    refine s_indexArr (j := i) hE rfl rfl arr23 (by first | rfl | omega) (by first | omega | decide) rfl ?_; clear hE a; intro a hE
    refine s_loadIdx (j := i) hE rfl (by omega) (hM.get 4 rfl) (bv_get (by have hl_ : p.length = 32 := hl_p; first | omega | (rw [bv_length]; omega) | (simp; omega))) one5 (by intro X h; cases h; simp) rfl ?_; clear hE a; intro a hE
    refine s_move hE rfl rfl ?_; clear hE a; intro a hE
    refine s_indexArr (j := i) hE rfl rfl arr23 (by first | rfl | omega) (by first | omega | decide) rfl ?_; clear hE a; intro a hE
    refine s_loadIdx (j := i) hE rfl (by omega) (hM.get 3 rfl) (bv_get (by have hl_ : q.length = 32 := hl_q; first | omega | (rw [bv_length]; omega) | (simp; omega))) one5 (by intro X h; cases h; simp) rfl ?_; clear hE a; intro a hE
    refine s_bin hE rfl rfl (bin_xor8 (x := p.getD i 0) (y := q.getD i 0)) rfl ?_; clear hE a; intro a hE
    refine s_bin hE rfl rfl bin_neq rfl ?_; clear hE a; intro a hE
    refine q_nil ?_
    replace hE : Env a 133 [(2, _), (3, _), (6, _), (7, _), (8, _), (9, _), (10, _), (11, _), (44, _), (63, _)] := hE.sel [2, 3, 6, 7, 8, 9, 10, 11, 44, 63] rfl
    refine hK8 _ _ ?_
    replace hE := hE.cast 63 rfl (show _ = Value.bool false from (congrArg Value.bool (by rw [wrap_xor hl_p hl_q (by omega)]; simp)))
    refine wp_cond_false (hE.eval rfl) ?_
    refine wp_skip ?_
    refine q_block_n ?_
    refine hK7 _ _ ?_
    refine wp_plain [true, true, true] rfl rfl ?_
    refine s_move hE rfl rfl ?_; clear hE a; intro a hE
    refine s_bin hE rfl rfl (show Bin _ _ _ _ _ (.int .i64 ((i + 1 : Nat) : Int)) from bin_add (by rw [wrap_i64 (by omega) (by omega)]; omega)) rfl ?_; clear hE a; intro a hE
    refine s_assign hE rfl rfl ?_; clear hE a; intro a hE
    refine q_nil ?_
    replace hE : Env a 133 [(2, _), (3, _), (6, _), (7, _), (8, _), (9, _), (10, _), (11, _), (44, _), (63, _)] := hE.sel [2, 3, 6, 7, 8, 9, 10, 11, 44, 63] rfl
    replace hE := hE.cast 11 rfl (show _ = Value.int .i64 (((i + 1) : Nat) : Int) from (congrArg _ (by omega)))
    replace hM : Mem _ _ w22 [_, _, _, _, _, _, _, _, _, _] := hM.pick [0, 1, 2, 3, 4, 5, 6, 7, 8, 9] rfl
    exact ⟨i + 1, ⟨by omega, hE.sel [2, 3, 6, 7, 8, 9, 10, 11] rfl, hM⟩, by omega⟩
  · replace hE := hE'; clear hE'
    replace hb44 := of_decide_eq_false hb44
    replace hb44 : ¬ (i < 32) := by omega
    obtain rfl : 32 = i := by omega
    refine wp_cond_false (hE.eval rfl) ?_
    refine wp_exit ?_
    refine q_then_e ?_
    refine q_then_e ?_
    refine q_block_x ?_
    refine hK3 _ _ ?_
    refine wp_seq_k (fun K7 hK7 => ?_)
    refine wp_plain [true, true, false, true] rfl rfl ?_
    refine s_move hE rfl rfl ?_; clear hE a; intro a hE
    refine s_loadN hE rfl (hM.get 1 rfl) row29 rfl (by intro X h; cases h) rfl ?_; clear hE a; intro a hE
    replace hE := hE.cast 65 rfl (show _ = Value.agg ([bv (wrapD k (l.take (min l.length 100)) n p), bv (tagB k (l.take (min l.length 100)) n (wrapD k (l.take (min l.length 100)) n p))] : List (List Value)).flatten.toArray from (by first | (simp only [List.flatten_cons, List.flatten_nil, List.append_nil, List.append_assoc]; done) | rfl | simp))
    refine s_call hE rfl Tryd.call23 (boxput_c _ (bs.take (min bs.length 100)) _ (wrapD k (l.take (min l.length 100)) n p) (tagB k (l.take (min l.length 100)) n (wrapD k (l.take (min l.length 100)) n p)) _ (hM.get 2 rfl) (wrapD_len (k := k) (l := (l.take (min l.length 100))) (n := n) (x := p) (by have hl_ax : p.length = 32 := hl_p; first | assumption | (simp; done))) (tagB_len k (l.take (min l.length 100)) n (wrapD k (l.take (min l.length 100)) n p)) (by have hl_0 : (bs.take (min bs.length 100)).length = min bs.length 100 := (by first | (simp; done) | (simp [*]; done) | (simp; omega)); have hl_1x : (wrapD k (l.take (min l.length 100)) n p).length = 32 := (wrapD_len (k := k) (l := (l.take (min l.length 100))) (n := n) (x := p) (by have hl_ax : p.length = 32 := hl_p; first | assumption | (simp; done))); have hl_1y : (tagB k (l.take (min l.length 100)) n (wrapD k (l.take (min l.length 100)) n p)).length = 32 := (tagB_len k (l.take (min l.length 100)) n (wrapD k (l.take (min l.length 100)) n p)); first | omega | assumption | (simp; done) | (simp; omega) | decide)) rfl ?_
    rintro e w22 ⟨v66, rfl, hN⟩
    refine ⟨_, rfl, trivial, ?_⟩; clear hE a; intro a hE
    replace hM : Mem _ _ w22 [_, _, _, _, _, _, _, _, _, _, _] := hM.call0 hN ⟨rfl, trivial⟩; clear hN
    obtain ⟨cp, hM⟩ := hM.freeze
    refine s_assign hE rfl rfl ?_; clear hE a; intro a hE
    refine q_nil ?_
    replace hE : Env a 133 [(2, _), (3, _), (6, _), (7, _), (8, _), (9, _), (10, _), (11, _), (12, _), (44, _)] := hE.sel [2, 3, 6, 7, 8, 9, 10, 11, 12, 44] rfl
    refine hK7 _ _ ?_
    refine wp_seq_k (fun K8 hK8 => ?_)
    refine wp_seq_k (fun K9 hK9 => ?_)
    refine wp_drawnM hM (by kernel_rfl) (fun _ => False) [(0, true), (1, true), (2, true), (3, true), (4, true), (5, true), (6, true), (7, true), (8, true), (9, true), (10, true), (11, true), (12, true), (13, true), (14, true), (15, true)] [] (by kernel_rfl) rfl ?_
    intro w23 hM' hww23; clear hM; have hM := hM'; clear hM'
    refine s_move hE rfl rfl ?_; clear hE a; intro a hE
    refine s_len hE rfl Tryd.underlying42 (rd_slice (hM.get 0 rfl)) rfl ?_; clear hE a; intro a hE
    replace hE := hE.cast 68 rfl (show _ = Value.int .i64 ((min bs.length 100 + 64 : Nat) : Int) from (congrArg (fun n : Nat => Value.int .i64 (n : Int)) (by have hl_q : (bs.take (min bs.length 100)).length = min bs.length 100 := (by first | (simp; done) | (simp [*]; done) | (simp; omega)); have hl_stx : (wrapD k (l.take (min l.length 100)) n p).length = 32 := (wrapD_len (k := k) (l := (l.take (min l.length 100))) (n := n) (x := p) (by have hl_ax : p.length = 32 := hl_p; first | assumption | (simp; done))); have hl_sty : (tagB k (l.take (min l.length 100)) n (wrapD k (l.take (min l.length 100)) n p)).length = 32 := (tagB_len k (l.take (min l.length 100)) n (wrapD k (l.take (min l.length 100)) n p)); rw [List.length_append, List.length_append]; omega)))
    refine s_move hE rfl rfl ?_; clear hE a; intro a hE
    refine s_len hE rfl Tryd.underlying42 (rd_slice (hM.get 3 rfl)) rfl ?_; clear hE a; intro a hE
    replace hE := hE.cast 70 rfl (show _ = Value.int .i64 ((min bs.length 100 : Nat) : Int) from (congrArg (fun n : Nat => Value.int .i64 (n : Int)) (by first | (simp; done) | (simp [*]; done) | (simp; omega))))
    refine s_bin hE rfl rfl (show Bin _ _ _ _ _ (.int .i64 (((min bs.length 100) + 64 : Nat) : Int)) from bin_add (by rw [wrap_i64 (by omega) (by omega)]; omega)) rfl ?_; clear hE a; intro a hE
    refine s_bin hE rfl rfl bin_neq rfl ?_; clear hE a; intro a hE
    refine s_move hE rfl rfl ?_; clear hE a; intro a hE
    replace hE := hE.cast 73 rfl (show _ = Value.bool false from (congrArg Value.bool (by first | rfl | (rw [decide_eq_true (by omega)]; rfl) | (simp; done))))
    refine g_yes hE rfl rfl ?_
    refine s_move hE rfl rfl ?_; clear hE a; intro a hE
    refine g_yes hE rfl rfl ?_
    refine s_move hE rfl rfl ?_; clear hE a; intro a hE
    refine g_yes hE rfl rfl ?_
    refine s_len hE rfl Tryd.underlying42 (rd_slice (hM.get 3 rfl)) rfl ?_; clear hE a; intro a hE
    replace hE := hE.cast 76 rfl (show _ = Value.int .i64 ((min bs.length 100 : Nat) : Int) from (congrArg (fun n : Nat => Value.int .i64 (n : Int)) (by first | (simp; done) | (simp [*]; done) | (simp; omega))))
    refine g_yes hE rfl rfl ?_
    have hcap77 := rd_len (hM.get 0 rfl)
    refine s_slice (l := 0) (h := min bs.length 100) (mx' := cp) hE rfl (hM.get 0 rfl) slt42 rfl ⟨_, rfl⟩ rfl (by simp) (by have hl_ : (((bs.take (min bs.length 100)) ++ (wrapD k (l.take (min l.length 100)) n p)) ++ (tagB k (l.take (min l.length 100)) n (wrapD k (l.take (min l.length 100)) n p))).length = min bs.length 100 + 64 := (by have hl_q : (bs.take (min bs.length 100)).length = min bs.length 100 := (by first | (simp; done) | (simp [*]; done) | (simp; omega)); have hl_stx : (wrapD k (l.take (min l.length 100)) n p).length = 32 := (wrapD_len (k := k) (l := (l.take (min l.length 100))) (n := n) (x := p) (by have hl_ax : p.length = 32 := hl_p; first | assumption | (simp; done))); have hl_sty : (tagB k (l.take (min l.length 100)) n (wrapD k (l.take (min l.length 100)) n p)).length = 32 := (tagB_len k (l.take (min l.length 100)) n (wrapD k (l.take (min l.length 100)) n p)); rw [List.length_append, List.length_append]; omega); first | omega | assumption | (simp; done) | (simp; omega) | decide) (by have hl_ : (((bs.take (min bs.length 100)) ++ (wrapD k (l.take (min l.length 100)) n p)) ++ (tagB k (l.take (min l.length 100)) n (wrapD k (l.take (min l.length 100)) n p))).length = min bs.length 100 + 64 := (by have hl_q : (bs.take (min bs.length 100)).length = min bs.length 100 := (by first | (simp; done) | (simp [*]; done) | (simp; omega)); have hl_stx : (wrapD k (l.take (min l.length 100)) n p).length = 32 := (wrapD_len (k := k) (l := (l.take (min l.length 100))) (n := n) (x := p) (by have hl_ax : p.length = 32 := hl_p; first | assumption | (simp; done))); have hl_sty : (tagB k (l.take (min l.length 100)) n (wrapD k (l.take (min l.length 100)) n p)).length = 32 := (tagB_len k (l.take (min l.length 100)) n (wrapD k (l.take (min l.length 100)) n p)); rw [List.length_append, List.length_append]; omega); first | omega | assumption | (simp; done) | (simp; omega) | decide) (by have hl_ : (((bs.take (min bs.length 100)) ++ (wrapD k (l.take (min l.length 100)) n p)) ++ (tagB k (l.take (min l.length 100)) n (wrapD k (l.take (min l.length 100)) n p))).length = min bs.length 100 + 64 := (by have hl_q : (bs.take (min bs.length 100)).length = min bs.length 100 := (by first | (simp; done) | (simp [*]; done) | (simp; omega)); have hl_stx : (wrapD k (l.take (min l.length 100)) n p).length = 32 := (wrapD_len (k := k) (l := (l.take (min l.length 100))) (n := n) (x := p) (by have hl_ax : p.length = 32 := hl_p; first | assumption | (simp; done))); have hl_sty : (tagB k (l.take (min l.length 100)) n (wrapD k (l.take (min l.length 100)) n p)).length = 32 := (tagB_len k (l.take (min l.length 100)) n (wrapD k (l.take (min l.length 100)) n p)); rw [List.length_append, List.length_append]; omega); first | omega | assumption | (simp; done) | (simp; omega) | decide) (by have hl_ : (((bs.take (min bs.length 100)) ++ (wrapD k (l.take (min l.length 100)) n p)) ++ (tagB k (l.take (min l.length 100)) n (wrapD k (l.take (min l.length 100)) n p))).length = min bs.length 100 + 64 := (by have hl_q : (bs.take (min bs.length 100)).length = min bs.length 100 := (by first | (simp; done) | (simp [*]; done) | (simp; omega)); have hl_stx : (wrapD k (l.take (min l.length 100)) n p).length = 32 := (wrapD_len (k := k) (l := (l.take (min l.length 100))) (n := n) (x := p) (by have hl_ax : p.length = 32 := hl_p; first | assumption | (simp; done))); have hl_sty : (tagB k (l.take (min l.length 100)) n (wrapD k (l.take (min l.length 100)) n p)).length = 32 := (tagB_len k (l.take (min l.length 100)) n (wrapD k (l.take (min l.length 100)) n p)); rw [List.length_append, List.length_append]; omega); first | omega | assumption | (simp; done) | (simp; omega) | decide) rfl ?_; clear hE a; intro a v77 hE hr77 hvb77
    replace hr77 : (rd v77 1 ((((bs.take (min bs.length 100)) ++ (wrapD k (l.take (min l.length 100)) n p)) ++ (tagB k (l.take (min l.length 100)) n (wrapD k (l.take (min l.length 100)) n p))).take (min bs.length 100)).length (cp - 0) (bv ((((bs.take (min bs.length 100)) ++ (wrapD k (l.take (min l.length 100)) n p)) ++ (tagB k (l.take (min l.length 100)) n (wrapD k (l.take (min l.length 100)) n p))).take (min bs.length 100)))).holds _ := rd_take (by first | omega | assumption | (simp; done) | (simp; omega) | decide) hr77
    replace hM := hM.addPart 0 rfl hr77 hvb77; clear hr77
    refine g_yes hE rfl rfl ?_
    refine s_toStr hE rfl Tryd.underlying42 Tryd.underlying5 Tryd.underlying9 (hM.get 0 rfl) (by intro X h; cases h; simp) rfl ?_; clear hE a; intro a hE
    refine g_yes hE rfl rfl ?_
    refine s_move hE rfl rfl ?_; clear hE a; intro a hE
    refine g_yes hE rfl rfl ?_
    refine s_toStr hE rfl Tryd.underlying42 Tryd.underlying5 Tryd.underlying9 (hM.get 4 rfl) (by intro X h; cases h; simp) rfl ?_; clear hE a; intro a hE
    refine g_yes hE rfl rfl ?_
    refine s_bin hE rfl rfl bins_str.2 rfl ?_; clear hE a; intro a hE
    refine s_pickf hE rfl rfl rfl ?_; clear hE a; intro a hE
    refine q_nil ?_
    replace hE : Env a 133 [(2, _), (3, _), (6, _), (7, _), (8, _), (9, _), (10, _), (11, _), (12, _), (44, _), (82, _)] := hE.sel [2, 3, 6, 7, 8, 9, 10, 11, 12, 44, 82] rfl
    refine hK9 _ _ ?_
    replace hE := hE.cast 82 rfl (show _ = Value.bool false from (congrArg Value.bool (by simp [hqb, List.append_assoc, List.take_append])))
    refine wp_cond_false (hE.eval rfl) ?_
    refine wp_skip ?_
    refine hK8 _ _ ?_
    refine wp_seq_k (fun K10 hK10 => ?_)
    refine wp_plain [false, true, true, true, true, false, true, false, false, true, true, true, true, false, false, true, true] rfl rfl ?_
    refine s_buildSlice (xs := []) ([]) hE hM sl42 rfl rfl rfl (by intro v hv; cases hv) rfl rfl rfl rfl ?_; clear hE a; intro a v84 w24 hE hM'
    clear hM; have hM := hM'; clear hM'
    replace hM := hM.ownEq (m' := ([] : List UInt8).length) (cs' := bv ([] : List UInt8)) rfl rfl
    refine s_move hE rfl rfl ?_; clear hE a; intro a hE
    refine s_move hE rfl rfl ?_; clear hE a; intro a hE
    refine s_len hE rfl Tryd.underlying42 (rd_slice (hM.get 5 rfl)) rfl ?_; clear hE a; intro a hE
    replace hE := hE.cast 87 rfl (show _ = Value.int .i64 ((min bs.length 100 : Nat) : Int) from (congrArg (fun n : Nat => Value.int .i64 (n : Int)) (by first | (simp; done) | (simp [*]; done) | (simp; omega))))
    have hcap88 := rd_len (hM.get 2 rfl)
    refine s_slice (l := min bs.length 100) (h := (((bs.take (min bs.length 100)) ++ (wrapD k (l.take (min l.length 100)) n p)) ++ (tagB k (l.take (min l.length 100)) n (wrapD k (l.take (min l.length 100)) n p))).length) (mx' := cp) hE rfl (hM.get 2 rfl) slt42 ⟨_, rfl⟩ rfl rfl (by simp) (by have hl_ : (((bs.take (min bs.length 100)) ++ (wrapD k (l.take (min l.length 100)) n p)) ++ (tagB k (l.take (min l.length 100)) n (wrapD k (l.take (min l.length 100)) n p))).length = min bs.length 100 + 64 := (by have hl_q : (bs.take (min bs.length 100)).length = min bs.length 100 := (by first | (simp; done) | (simp [*]; done) | (simp; omega)); have hl_stx : (wrapD k (l.take (min l.length 100)) n p).length = 32 := (wrapD_len (k := k) (l := (l.take (min l.length 100))) (n := n) (x := p) (by have hl_ax : p.length = 32 := hl_p; first | assumption | (simp; done))); have hl_sty : (tagB k (l.take (min l.length 100)) n (wrapD k (l.take (min l.length 100)) n p)).length = 32 := (tagB_len k (l.take (min l.length 100)) n (wrapD k (l.take (min l.length 100)) n p)); rw [List.length_append, List.length_append]; omega); first | omega | assumption | (simp; done) | (simp; omega) | decide) (by have hl_ : (((bs.take (min bs.length 100)) ++ (wrapD k (l.take (min l.length 100)) n p)) ++ (tagB k (l.take (min l.length 100)) n (wrapD k (l.take (min l.length 100)) n p))).length = min bs.length 100 + 64 := (by have hl_q : (bs.take (min bs.length 100)).length = min bs.length 100 := (by first | (simp; done) | (simp [*]; done) | (simp; omega)); have hl_stx : (wrapD k (l.take (min l.length 100)) n p).length = 32 := (wrapD_len (k := k) (l := (l.take (min l.length 100))) (n := n) (x := p) (by have hl_ax : p.length = 32 := hl_p; first | assumption | (simp; done))); have hl_sty : (tagB k (l.take (min l.length 100)) n (wrapD k (l.take (min l.length 100)) n p)).length = 32 := (tagB_len k (l.take (min l.length 100)) n (wrapD k (l.take (min l.length 100)) n p)); rw [List.length_append, List.length_append]; omega); first | omega | assumption | (simp; done) | (simp; omega) | decide) (by have hl_ : (((bs.take (min bs.length 100)) ++ (wrapD k (l.take (min l.length 100)) n p)) ++ (tagB k (l.take (min l.length 100)) n (wrapD k (l.take (min l.length 100)) n p))).length = min bs.length 100 + 64 := (by have hl_q : (bs.take (min bs.length 100)).length = min bs.length 100 := (by first | (simp; done) | (simp [*]; done) | (simp; omega)); have hl_stx : (wrapD k (l.take (min l.length 100)) n p).length = 32 := (wrapD_len (k := k) (l := (l.take (min l.length 100))) (n := n) (x := p) (by have hl_ax : p.length = 32 := hl_p; first | assumption | (simp; done))); have hl_sty : (tagB k (l.take (min l.length 100)) n (wrapD k (l.take (min l.length 100)) n p)).length = 32 := (tagB_len k (l.take (min l.length 100)) n (wrapD k (l.take (min l.length 100)) n p)); rw [List.length_append, List.length_append]; omega); first | omega | assumption | (simp; done) | (simp; omega) | decide) (by have hl_ : (((bs.take (min bs.length 100)) ++ (wrapD k (l.take (min l.length 100)) n p)) ++ (tagB k (l.take (min l.length 100)) n (wrapD k (l.take (min l.length 100)) n p))).length = min bs.length 100 + 64 := (by have hl_q : (bs.take (min bs.length 100)).length = min bs.length 100 := (by first | (simp; done) | (simp [*]; done) | (simp; omega)); have hl_stx : (wrapD k (l.take (min l.length 100)) n p).length = 32 := (wrapD_len (k := k) (l := (l.take (min l.length 100))) (n := n) (x := p) (by have hl_ax : p.length = 32 := hl_p; first | assumption | (simp; done))); have hl_sty : (tagB k (l.take (min l.length 100)) n (wrapD k (l.take (min l.length 100)) n p)).length = 32 := (tagB_len k (l.take (min l.length 100)) n (wrapD k (l.take (min l.length 100)) n p)); rw [List.length_append, List.length_append]; omega); first | omega | assumption | (simp; done) | (simp; omega) | decide) rfl ?_; clear hE a; intro a v88 hE hr88 hvb88
    replace hr88 : (rd v88 1 ((((bs.take (min bs.length 100)) ++ (wrapD k (l.take (min l.length 100)) n p)) ++ (tagB k (l.take (min l.length 100)) n (wrapD k (l.take (min l.length 100)) n p))).drop (min bs.length 100)).length (cp - min bs.length 100) (bv ((((bs.take (min bs.length 100)) ++ (wrapD k (l.take (min l.length 100)) n p)) ++ (tagB k (l.take (min l.length 100)) n (wrapD k (l.take (min l.length 100)) n p))).drop (min bs.length 100)))).holds _ := rd_drop rfl (by first | omega | assumption | (simp; done) | (simp; omega) | decide) hr88
    replace hM := hM.addPart 2 rfl hr88 hvb88; clear hr88
    replace hM : Mem _ _ w24 [_, _, _, _, _, _, _, _, _, _, _, _, _, _] := hM.pick [1, 0, 2, 3, 4, 5, 6, 7, 8, 9, 10, 11, 12, 13] rfl
    refine s_append hE rfl rfl hM sl42 (Src.rd Tryd.underlying42 (hM.get 1 rfl) (bv_one _)) (len47 (by have hl_x : ([] : List UInt8).length = 0 := (by first | (simp; done) | (simp [*]; done) | (simp; omega)); have hl_y : ((((bs.take (min bs.length 100)) ++ (wrapD k (l.take (min l.length 100)) n p)) ++ (tagB k (l.take (min l.length 100)) n (wrapD k (l.take (min l.length 100)) n p))).drop (min bs.length 100)).length = (min bs.length 100 + 64) - (min bs.length 100) := (by have hl_q : (((bs.take (min bs.length 100)) ++ (wrapD k (l.take (min l.length 100)) n p)) ++ (tagB k (l.take (min l.length 100)) n (wrapD k (l.take (min l.length 100)) n p))).length = min bs.length 100 + 64 := (by have hl_q : (bs.take (min bs.length 100)).length = min bs.length 100 := (by first | (simp; done) | (simp [*]; done) | (simp; omega)); have hl_stx : (wrapD k (l.take (min l.length 100)) n p).length = 32 := (wrapD_len (k := k) (l := (l.take (min l.length 100))) (n := n) (x := p) (by have hl_ax : p.length = 32 := hl_p; first | assumption | (simp; done))); have hl_sty : (tagB k (l.take (min l.length 100)) n (wrapD k (l.take (min l.length 100)) n p)).length = 32 := (tagB_len k (l.take (min l.length 100)) n (wrapD k (l.take (min l.length 100)) n p)); rw [List.length_append, List.length_append]; omega); first | (simp only [List.length_take, List.length_drop]; omega) | (simp; try omega)); first | omega | (simp; done) | (simp; omega))) (by have hl_x : ([] : List UInt8).length = 0 := (by first | (simp; done) | (simp [*]; done) | (simp; omega)); have hl_y : ((((bs.take (min bs.length 100)) ++ (wrapD k (l.take (min l.length 100)) n p)) ++ (tagB k (l.take (min l.length 100)) n (wrapD k (l.take (min l.length 100)) n p))).drop (min bs.length 100)).length = (min bs.length 100 + 64) - (min bs.length 100) := (by have hl_q : (((bs.take (min bs.length 100)) ++ (wrapD k (l.take (min l.length 100)) n p)) ++ (tagB k (l.take (min l.length 100)) n (wrapD k (l.take (min l.length 100)) n p))).length = min bs.length 100 + 64 := (by have hl_q : (bs.take (min bs.length 100)).length = min bs.length 100 := (by first | (simp; done) | (simp [*]; done) | (simp; omega)); have hl_stx : (wrapD k (l.take (min l.length 100)) n p).length = 32 := (wrapD_len (k := k) (l := (l.take (min l.length 100))) (n := n) (x := p) (by have hl_ax : p.length = 32 := hl_p; first | assumption | (simp; done))); have hl_sty : (tagB k (l.take (min l.length 100)) n (wrapD k (l.take (min l.length 100)) n p)).length = 32 := (tagB_len k (l.take (min l.length 100)) n (wrapD k (l.take (min l.length 100)) n p)); rw [List.length_append, List.length_append]; omega); first | (simp only [List.length_take, List.length_drop]; omega) | (simp; try omega)); first | omega | (simp; done) | (simp; omega)) (by intro X h; cases h) rfl ?_; clear hE a; intro a v89 w25 hE hM'; clear hM; have hM := hM'; clear hM'
    replace hM := Mem.ownNil (q := (((bs.take (min bs.length 100)) ++ (wrapD k (l.take (min l.length 100)) n p)) ++ (tagB k (l.take (min l.length 100)) n (wrapD k (l.take (min l.length 100)) n p))).drop (min bs.length 100)) hM rfl (by first | rfl | (simp; done))
    refine s_move hE rfl rfl ?_; clear hE a; intro a hE
    refine s_append hE rfl rfl hM sl42 (Src.rd Tryd.underlying42 (hM.get 6 rfl) (bv_one _)) (len47 (by have hl_x : ((((bs.take (min bs.length 100)) ++ (wrapD k (l.take (min l.length 100)) n p)) ++ (tagB k (l.take (min l.length 100)) n (wrapD k (l.take (min l.length 100)) n p))).drop (min bs.length 100)).length = (min bs.length 100 + 64) - (min bs.length 100) := (by have hl_q : (((bs.take (min bs.length 100)) ++ (wrapD k (l.take (min l.length 100)) n p)) ++ (tagB k (l.take (min l.length 100)) n (wrapD k (l.take (min l.length 100)) n p))).length = min bs.length 100 + 64 := (by have hl_q : (bs.take (min bs.length 100)).length = min bs.length 100 := (by first | (simp; done) | (simp [*]; done) | (simp; omega)); have hl_stx : (wrapD k (l.take (min l.length 100)) n p).length = 32 := (wrapD_len (k := k) (l := (l.take (min l.length 100))) (n := n) (x := p) (by have hl_ax : p.length = 32 := hl_p; first | assumption | (simp; done))); have hl_sty : (tagB k (l.take (min l.length 100)) n (wrapD k (l.take (min l.length 100)) n p)).length = 32 := (tagB_len k (l.take (min l.length 100)) n (wrapD k (l.take (min l.length 100)) n p)); rw [List.length_append, List.length_append]; omega); first | (simp only [List.length_take, List.length_drop]; omega) | (simp; try omega)); have hl_y : (bs.take (min bs.length 100)).length = min bs.length 100 := (by first | (simp; done) | (simp [*]; done) | (simp; omega)); first | omega | (simp; done) | (simp; omega))) (by have hl_x : ((((bs.take (min bs.length 100)) ++ (wrapD k (l.take (min l.length 100)) n p)) ++ (tagB k (l.take (min l.length 100)) n (wrapD k (l.take (min l.length 100)) n p))).drop (min bs.length 100)).length = (min bs.length 100 + 64) - (min bs.length 100) := (by have hl_q : (((bs.take (min bs.length 100)) ++ (wrapD k (l.take (min l.length 100)) n p)) ++ (tagB k (l.take (min l.length 100)) n (wrapD k (l.take (min l.length 100)) n p))).length = min bs.length 100 + 64 := (by have hl_q : (bs.take (min bs.length 100)).length = min bs.length 100 := (by first | (simp; done) | (simp [*]; done) | (simp; omega)); have hl_stx : (wrapD k (l.take (min l.length 100)) n p).length = 32 := (wrapD_len (k := k) (l := (l.take (min l.length 100))) (n := n) (x := p) (by have hl_ax : p.length = 32 := hl_p; first | assumption | (simp; done))); have hl_sty : (tagB k (l.take (min l.length 100)) n (wrapD k (l.take (min l.length 100)) n p)).length = 32 := (tagB_len k (l.take (min l.length 100)) n (wrapD k (l.take (min l.length 100)) n p)); rw [List.length_append, List.length_append]; omega); first | (simp only [List.length_take, List.length_drop]; omega) | (simp; try omega)); have hl_y : (bs.take (min bs.length 100)).length = min bs.length 100 := (by first | (simp; done) | (simp [*]; done) | (simp; omega)); first | omega | (simp; done) | (simp; omega)) (by intro X h; cases h) rfl ?_; clear hE a; intro a v91 w26 hE hM'; clear hM; have hM := hM'; clear hM'
    replace hM := Mem.ownApp (p := (((bs.take (min bs.length 100)) ++ (wrapD k (l.take (min l.length 100)) n p)) ++ (tagB k (l.take (min l.length 100)) n (wrapD k (l.take (min l.length 100)) n p))).drop (min bs.length 100)) (q := bs.take (min bs.length 100)) hM (by first | rfl | (simp; done))
    replace hM := Mem.ownB (p := ((((bs.take (min bs.length 100)) ++ (wrapD k (l.take (min l.length 100)) n p)) ++ (tagB k (l.take (min l.length 100)) n (wrapD k (l.take (min l.length 100)) n p))).drop (min bs.length 100)) ++ (bs.take (min bs.length 100))) (q := ((wrapD k (l.take (min l.length 100)) n p) ++ (tagB k (l.take (min l.length 100)) n (wrapD k (l.take (min l.length 100)) n p))) ++ (bs.take (min bs.length 100))) hM (by simp [hqb])
    obtain ⟨cq1, hq1⟩ := own_rd (hM.get 0 rfl)
    refine s_call hE rfl Tryd.call24 ((by have h := boxget_a _ (((wrapD k (l.take (min l.length 100)) n p) ++ (tagB k (l.take (min l.length 100)) n (wrapD k (l.take (min l.length 100)) n p))) ++ (bs.take (min bs.length 100))) _ _ hq1 (by have h9 : (((wrapD k (l.take (min l.length 100)) n p) ++ (tagB k (l.take (min l.length 100)) n (wrapD k (l.take (min l.length 100)) n p))) ++ (bs.take (min bs.length 100))).length = 64 + min bs.length 100 := (by simp only [List.length_append, hlD, hlT, hqb]); omega); rw [hg1, hg2, hg3, hg4] at h; exact h)) rfl ?_
    rintro e w27 ⟨v92, rfl, hN⟩
    refine ⟨_, rfl, trivial, ?_⟩; clear hE a; intro a hE
    replace hM : Mem _ _ w27 [_, _, _, _, _, _, _, _, _, _, _, _, _, _, _] := hM.call0 hN ⟨rfl, trivial⟩; clear hN
    refine s_move hE rfl rfl ?_; clear hE a; intro a hE
    refine s_extract hE rfl rfl rfl ?_; clear hE a; intro a hE
    refine s_extract hE rfl rfl rfl ?_; clear hE a; intro a hE
    refine s_extract hE rfl rfl rfl ?_; clear hE a; intro a hE
    refine s_alloc [32, 32] hE hM zero29 rfl rfl ?_; clear hE a; intro a b13 w28 hE hM'
    clear hM; have hM := hM'; clear hM'
    refine s_storeSegs 0 2 (vss := [bv (wrapD k (l.take (min l.length 100)) n p), bv (tagB k (l.take (min l.length 100)) n (wrapD k (l.take (min l.length 100)) n p))]) hE rfl rfl hM rfl sz29 (by have hl_s0 : (wrapD k (l.take (min l.length 100)) n p).length = 32 := hlD; have hl_s1 : (tagB k (l.take (min l.length 100)) n (wrapD k (l.take (min l.length 100)) n p)).length = 32 := hlT;  simp only [List.map_cons, List.map_nil, bv_length, List.length_cons, List.length_nil, List.take_succ_cons, List.take_zero, List.drop_zero, List.drop_succ_cons, hl_s0, hl_s1]) (by decide) rfl (one_fl ⟨bv_one _, bv_one _, trivial⟩) rfl (by intro X h; cases h) ?_; intro w29 hM'; clear hM; have hM := hM'; clear hM'
    simp only [List.take_zero, List.take_succ_cons, List.drop_zero, List.drop_succ_cons, List.take_nil, List.drop_nil, List.nil_append, List.append_nil, List.cons_append] at hM
    refine s_assign hE rfl rfl ?_; clear hE a; intro a hE
    refine s_assign hE rfl rfl ?_; clear hE a; intro a hE
    refine q_nil ?_
    replace hE : Env a 133 [(2, _), (3, _), (6, _), (7, _), (8, _), (9, _), (10, _), (11, _), (12, _), (13, _), (14, _), (15, _), (44, _), (82, _)] := hE.sel [2, 3, 6, 7, 8, 9, 10, 11, 12, 13, 14, 15, 44, 82] rfl
    refine hK10 _ _ ?_
    refine wp_seq_j (fun a w' => ∃ (b16 : Nat), Env a 133 [(2, v26), (3, .pointer (some ⟨b3, 0, none⟩)), (6, .bool false), (7, .pointer (some ⟨b7, 0, none⟩)), (8, .pointer (some ⟨b8, 0, none⟩)), (9, .pointer (some ⟨b9, 0, none⟩)), (10, .pointer (some ⟨b10, 0, none⟩)), (11, .int .i64 32), (12, v66), (13, .pointer (some ⟨b13, 0, none⟩)), (14, v92), (15, .int .i64 0), (16, .pointer (some ⟨b16, 0, none⟩)), (17, .int .i64 ((unwE k (l.take (min l.length 100)) n (wrapD k (l.take (min l.length 100)) n p) (tagB k (l.take (min l.length 100)) n (wrapD k (l.take (min l.length 100)) n p)) : Nat) : Int)), (44, .bool false), (82, .bool false)] ∧ Mem w [] w' [blk b16 [bv (unwK k (l.take (min l.length 100)) n (wrapD k (l.take (min l.length 100)) n p) (tagB k (l.take (min l.length 100)) n (wrapD k (l.take (min l.length 100)) n p)))] [32] 23, blk b13 [bv (wrapD k (l.take (min l.length 100)) n p), bv (tagB k (l.take (min l.length 100)) n (wrapD k (l.take (min l.length 100)) n p))] [32, 32] 29, own v92 1 (bs.take (min bs.length 100)).length (bv (bs.take (min bs.length 100))), own v91 1 (((wrapD k (l.take (min l.length 100)) n p) ++ (tagB k (l.take (min l.length 100)) n (wrapD k (l.take (min l.length 100)) n p))) ++ (bs.take (min bs.length 100))).length (bv (((wrapD k (l.take (min l.length 100)) n p) ++ (tagB k (l.take (min l.length 100)) n (wrapD k (l.take (min l.length 100)) n p))) ++ (bs.take (min bs.length 100)))), rd v88 1 ((((bs.take (min bs.length 100)) ++ (wrapD k (l.take (min l.length 100)) n p)) ++ (tagB k (l.take (min l.length 100)) n (wrapD k (l.take (min l.length 100)) n p))).drop (min bs.length 100)).length (cp - min bs.length 100) (bv ((((bs.take (min bs.length 100)) ++ (wrapD k (l.take (min l.length 100)) n p)) ++ (tagB k (l.take (min l.length 100)) n (wrapD k (l.take (min l.length 100)) n p))).drop (min bs.length 100))), rd v77 1 ((((bs.take (min bs.length 100)) ++ (wrapD k (l.take (min l.length 100)) n p)) ++ (tagB k (l.take (min l.length 100)) n (wrapD k (l.take (min l.length 100)) n p))).take (min bs.length 100)).length (cp - 0) (bv ((((bs.take (min bs.length 100)) ++ (wrapD k (l.take (min l.length 100)) n p)) ++ (tagB k (l.take (min l.length 100)) n (wrapD k (l.take (min l.length 100)) n p))).take (min bs.length 100))), rd v66 1 (((bs.take (min bs.length 100)) ++ (wrapD k (l.take (min l.length 100)) n p)) ++ (tagB k (l.take (min l.length 100)) n (wrapD k (l.take (min l.length 100)) n p))).length cp (bv (((bs.take (min bs.length 100)) ++ (wrapD k (l.take (min l.length 100)) n p)) ++ (tagB k (l.take (min l.length 100)) n (wrapD k (l.take (min l.length 100)) n p)))), blk b10 [bv (wrapD k (l.take (min l.length 100)) n q), bv (tagB k (l.take (min l.length 100)) n (wrapD k (l.take (min l.length 100)) n q))] [32, 32] 29, blk b9 [bv (wrapD k (l.take (min l.length 100)) n p), bv (tagB k (l.take (min l.length 100)) n (wrapD k (l.take (min l.length 100)) n p))] [32, 32] 29, rd v26 1 (bs.take (min bs.length 100)).length (c - 0) (bv (bs.take (min bs.length 100))), blk b8 [bv q] [32] 23, blk b7 [bv p] [32] 23, blk b4 [bv p, bv q] [32, 32] 49, blk b3 [bv k, [.string (str l)], [.int .u64 ((n : Nat) : Int)]] [32, 1, 1] 26, rd v 1 bs.length c (bv bs), glb 1, tabP]) ?_ ?_
    · refine wp_treeM hM (by kernel_rfl) (fun _ => True) (fun _ => True) (.re [(0, true), (4, true), (1, true), (2, true), (5, true), (6, true), (3, false), (7, false), (8, true), (9, true), (10, true), (11, false), (12, false), (13, true)] (.fl 2 (.weak (.fl 4 (.or 3 (.re [(7, false), (8, true), (9, true), (10, true), (11, false), (12, false), (13, true)] (.fl 0 (.fl 0 (.or 7 (.re [(8, true), (9, true), (10, true), (11, false), (12, false), (13, true)] (.fl 3 (.fl 0 (.or 11 (.re [(12, false), (13, true)] (.fl 0 (.fl 0 (.or 12 (.cut (.re [(13, true)] (.weak (.leaf 1)))) (.stop))))) (.stop))))) (.or 11 (.cut (.re [(7, false), (8, true), (9, true), (10, true), (12, false), (13, true)] (.fl 0 (.fl 0 (.or 7 (.re [(8, true), (9, true), (10, true), (12, false), (13, true)] (.fl 3 (.fl 0 (.weak (.or 12 (.cut (.re [(13, true)] (.weak (.leaf 1)))) (.stop)))))) (.stop)))))) (.stop)))))) (.or 11 (.re [(3, false), (7, false), (8, true), (9, true), (10, true), (12, false), (13, true)] (.fl 0 (.fl 0 (.or 3 (.cut (.re [(7, false), (8, true), (9, true), (10, true), (12, false), (13, true)] (.fl 0 (.fl 0 (.or 7 (.re [(8, true), (9, true), (10, true), (12, false), (13, true)] (.fl 3 (.fl 0 (.weak (.or 12 (.cut (.re [(13, true)] (.weak (.leaf 1)))) (.stop)))))) (.stop)))))) (.stop))))) (.stop))))))) [(0, true), (4, true), (1, true), (2, true), (5, true), (6, true), (3, false), (7, false), (8, true), (9, true), (10, true), (11, false), (12, false), (13, true)] [(0, [(1, 0), (7, 1), (8, 7), (9, 8), (10, 8), (12, 0), (13, 0)]), (1, [(7, 1), (8, 7), (9, 8), (10, 8), (12, 1), (13, 1)]), (2, [(3, 2), (7, 3), (8, 7), (9, 8), (10, 8), (12, 2), (13, 2)]), (3, [(7, 3), (8, 7), (9, 8), (10, 8), (12, 3), (13, 3)]), (4, [(5, 4), (7, 5), (8, 7), (9, 8), (10, 8), (12, 4), (13, 4)]), (5, [(7, 5), (8, 7), (9, 8), (10, 8), (12, 5), (13, 5)]), (6, [(7, 6), (8, 7), (9, 8), (10, 8), (12, 6), (13, 6)]), (7, [(8, 7), (9, 8), (10, 8), (12, 7), (13, 7)]), (9, [(12, 9), (13, 9)]), (10, [(13, 10)]), (11, [(12, 11), (13, 11)]), (12, [(13, 12)])] (by kernel_rfl) ?_
      intro w30 hM' hww30; clear hM; have hM := hM'; clear hM'
      refine o_re ?_
      refine o_fl rfl ?_
      refine s_fieldAddr hE rfl fo26_0 rfl ?_; clear hE a; intro a hE
      refine s_fieldAddr hE rfl fo26_2 rfl ?_; clear hE a; intro a hE
      refine q_nil (q_nx ?_)
      refine o_weak (fun b => b ≠ b3 ∧ b ≠ b13) (fun _ _ => trivial) ?_
      refine o_fl rfl ?_
      refine s_loadN hE rfl (hM.get 12 rfl) row23 rfl (by intro X h; cases h; simp) rfl ?_; clear hE a; intro a hE
      refine s_loadN hE rfl (hM.get 12 rfl) row26 rfl (by intro X h; cases h; simp) rfl ?_; clear hE a; intro a hE
      replace hE := hE.cast 99 rfl (show _ = Value.agg ([bv k, [.string (str l)], [.int .u64 ((n : Nat) : Int)]] : List (List Value)).flatten.toArray from (by first | (simp only [List.flatten_cons, List.flatten_nil, List.append_nil, List.append_assoc]; done) | rfl | simp))
      refine s_load1 hE rfl (hM.get 12 rfl) rfl one24 (by intro X h; cases h; simp) rfl ?_; clear hE a; intro a hE
      refine s_loadN hE rfl (hM.get 0 rfl) row29 rfl (by intro X h; cases h; simp) rfl ?_; clear hE a; intro a hE
      replace hE := hE.cast 103 rfl (show _ = Value.agg ([bv (wrapD k (l.take (min l.length 100)) n p), bv (tagB k (l.take (min l.length 100)) n (wrapD k (l.take (min l.length 100)) n p))] : List (List Value)).flatten.toArray from (by first | (simp only [List.flatten_cons, List.flatten_nil, List.append_nil, List.append_assoc]; done) | rfl | simp))
      refine q_nil (q_nx ?_)
      refine o_or rfl ?_ ?_
      · refine s_call hE rfl Tryd.call15 (label10_c k l n _ hl_k) rfl ?_
        rintro e w31 ⟨rfl, hN⟩
        refine ⟨_, rfl, hN.sta0 _, ?_⟩; clear hE a; intro a hE
        replace hM : Mem _ _ w31 [_, _, _, _, _, _, _, _, _, _, _, _, _, _, _, _] := hM.call0 hN trivial; clear hN
        refine q_nil (q_nx ?_)
        refine o_re ?_
        refine o_fl rfl ?_
        refine q_nil (q_nx ?_)
        refine o_fl rfl ?_
        refine q_nil (q_nx ?_)
        refine o_or rfl ?_ ?_
        · refine s_call hE rfl Tryd.call16 (unwrap_c k (l.take (min l.length 100)) n (wrapD k (l.take (min l.length 100)) n p) (tagB k (l.take (min l.length 100)) n (wrapD k (l.take (min l.length 100)) n p)) _ (hM.get 14 rfl) (hM.get 15 rfl) hl_k hlD hlT (by have hl_0 : k.length = 32 := hl_k; have hl_1 : (l.take (min l.length 100)).length = min l.length 100 := (by rw [List.length_take]; omega); have hl_3d : (wrapD k (l.take (min l.length 100)) n p).length = 32 := hlD; have hl_3t : (tagB k (l.take (min l.length 100)) n (wrapD k (l.take (min l.length 100)) n p)).length = 32 := hlT; first | omega | assumption | (simp; done) | (simp; omega) | decide) (by have hl_0 : k.length = 32 := hl_k; have hl_1 : (l.take (min l.length 100)).length = min l.length 100 := (by rw [List.length_take]; omega); have hl_3d : (wrapD k (l.take (min l.length 100)) n p).length = 32 := hlD; have hl_3t : (tagB k (l.take (min l.length 100)) n (wrapD k (l.take (min l.length 100)) n p)).length = 32 := hlT; first | omega | assumption | (simp; done) | (simp; omega) | decide)) rfl ?_
          rintro e w32 ⟨rfl, hN⟩
          refine ⟨_, rfl, hN.sta0 _, ?_⟩; clear hE a; intro a hE
          replace hM : Mem _ _ w32 [_, _, _, _, _, _, _, _, _, _, _, _, _, _, _, _] := hM.call0 hN trivial; clear hN
          refine q_nil (q_nx ?_)
          refine o_re ?_
          refine o_fl rfl ?_
          refine s_move hE rfl rfl ?_; clear hE a; intro a hE
          refine s_extract hE rfl rfl rfl ?_; clear hE a; intro a hE
          refine s_extract hE rfl rfl rfl ?_; clear hE a; intro a hE
          refine q_nil (q_nx ?_)
          refine o_fl rfl ?_
          refine q_nil (q_nx ?_)
          refine o_or rfl ?_ ?_
          · refine s_alloc [32] hE hM zero23 rfl rfl ?_; clear hE a; intro a b16 w33 hE hM'
            clear hM; have hM := hM'; clear hM'
            refine q_nil (q_nx ?_)
            refine o_re ?_
            refine o_fl rfl ?_
            refine q_nil (q_nx ?_)
            refine o_fl rfl ?_
            refine q_nil (q_nx ?_)
            refine o_or rfl ?_ ?_
            · refine s_storeSeg 0 hE rfl rfl hM rfl sz23 ((bv_length _).trans (unwK_len (k := k) (l := (l.take (min l.length 100))) (n := n) (d := (wrapD k (l.take (min l.length 100)) n p)) (t := (tagB k (l.take (min l.length 100)) n (wrapD k (l.take (min l.length 100)) n p))) (by have hl_std : (wrapD k (l.take (min l.length 100)) n p).length = 32 := hlD; first | assumption | (simp; done)))) (bv_one _) rfl ((bv_length _).trans (by first | (simp; done) | (simp [*]; done) | (simp; omega))) rfl (by intro X h; cases h; exact ⟨fun e => ((apart_of_get hM.apart (i := 0) (j := 13) rfl rfl (by decide)).1 _ (.head _)).1 (by rw [e]; exact .head _), fun e => ((apart_of_get hM.apart (i := 0) (j := 1) rfl rfl (by decide)).1 _ (.head _)).1 (by rw [e]; exact .head _)⟩) ?_; intro w34 hM'; clear hM; have hM := hM'; clear hM'
              simp only [List.set_cons_zero, List.set_cons_succ] at hM
              refine q_nil (q_nx ?_)
              refine o_cut (fun _ => True) ?_
              refine o_re ?_
              refine o_weak (fun _ => False) (fun _ _ => trivial) ?_
              refine o_leaf rfl rfl ?_
              refine s_assign hE rfl rfl ?_; clear hE a; intro a hE
              refine q_nil (q_ph (q_nil ?_))
              replace hE : Env a 133 [(2, _), (3, _), (6, _), (7, _), (8, _), (9, _), (10, _), (11, _), (12, _), (13, _), (14, _), (15, _), (16, _), (17, _), (44, _), (82, _)] := hE.sel [2, 3, 6, 7, 8, 9, 10, 11, 12, 13, 14, 15, 16, 17, 44, 82] rfl
              replace hM : Mem _ _ w34 [_, _, _, _, _, _, _, _, _, _, _, _, _, _, _, _, _] := hM.pick [0, 1, 2, 3, 4, 5, 6, 7, 8, 9, 10, 11, 12, 13, 14, 15, 16] rfl
              refine q_then_n ⟨_, hE.sel [2, 3, 6, 7, 8, 9, 10, 11, 12, 13, 14, 15, 16, 17, 44, 82] rfl, hM⟩
            trivial
          trivial
        refine o_or rfl ?_ ?_
        · refine s_alloc [32] hE hM zero23 rfl rfl ?_; clear hE a; intro a b16 w32 hE hM'
          clear hM; have hM := hM'; clear hM'
          refine q_nil (q_nx ?_)
          refine o_cut (fun _ => True) ?_
          refine o_re ?_
          refine o_fl rfl ?_
          refine q_nil (q_nx ?_)
          refine o_fl rfl ?_
          refine q_nil (q_nx ?_)
          refine o_or rfl ?_ ?_
          · refine s_call hE rfl Tryd.call16 (unwrap_c k (l.take (min l.length 100)) n (wrapD k (l.take (min l.length 100)) n p) (tagB k (l.take (min l.length 100)) n (wrapD k (l.take (min l.length 100)) n p)) _ (hM.get 15 rfl) (hM.get 16 rfl) hl_k hlD hlT (by have hl_0 : k.length = 32 := hl_k; have hl_1 : (l.take (min l.length 100)).length = min l.length 100 := (by rw [List.length_take]; omega); have hl_3d : (wrapD k (l.take (min l.length 100)) n p).length = 32 := hlD; have hl_3t : (tagB k (l.take (min l.length 100)) n (wrapD k (l.take (min l.length 100)) n p)).length = 32 := hlT; first | omega | assumption | (simp; done) | (simp; omega) | decide) (by have hl_0 : k.length = 32 := hl_k; have hl_1 : (l.take (min l.length 100)).length = min l.length 100 := (by rw [List.length_take]; omega); have hl_3d : (wrapD k (l.take (min l.length 100)) n p).length = 32 := hlD; have hl_3t : (tagB k (l.take (min l.length 100)) n (wrapD k (l.take (min l.length 100)) n p)).length = 32 := hlT; first | omega | assumption | (simp; done) | (simp; omega) | decide)) rfl ?_
            rintro e w33 ⟨rfl, hN⟩
            refine ⟨_, rfl, hN.sta0 _, ?_⟩; clear hE a; intro a hE
            replace hM : Mem _ _ w33 [_, _, _, _, _, _, _, _, _, _, _, _, _, _, _, _, _] := hM.call0 hN trivial; clear hN
            refine q_nil (q_nx ?_)
            refine o_re ?_
            refine o_fl rfl ?_
            refine s_move hE rfl rfl ?_; clear hE a; intro a hE
            refine s_extract hE rfl rfl rfl ?_; clear hE a; intro a hE
            refine s_extract hE rfl rfl rfl ?_; clear hE a; intro a hE
            refine q_nil (q_nx ?_)
            refine o_fl rfl ?_
            refine q_nil (q_nx ?_)
            refine o_weak (fun b => b = b16) (fun _ _ => trivial) ?_
            refine o_or rfl ?_ ?_
            · refine s_storeSeg 0 hE rfl rfl hM rfl sz23 ((bv_length _).trans (unwK_len (k := k) (l := (l.take (min l.length 100))) (n := n) (d := (wrapD k (l.take (min l.length 100)) n p)) (t := (tagB k (l.take (min l.length 100)) n (wrapD k (l.take (min l.length 100)) n p))) (by have hl_std : (wrapD k (l.take (min l.length 100)) n p).length = 32 := hlD; first | assumption | (simp; done)))) (bv_one _) rfl ((bv_length _).trans (by first | (simp; done) | (simp [*]; done) | (simp; omega))) rfl (by intro X h; cases h; rfl) ?_; intro w34 hM'; clear hM; have hM := hM'; clear hM'
              simp only [List.set_cons_zero, List.set_cons_succ] at hM
              refine q_nil (q_nx ?_)
              refine o_cut (fun _ => True) ?_
              refine o_re ?_
              refine o_weak (fun _ => False) (fun _ _ => trivial) ?_
              refine o_leaf rfl rfl ?_
              refine s_assign hE rfl rfl ?_; clear hE a; intro a hE
              refine q_nil (q_ph (q_nil ?_))
              replace hE : Env a 133 [(2, _), (3, _), (6, _), (7, _), (8, _), (9, _), (10, _), (11, _), (12, _), (13, _), (14, _), (15, _), (16, _), (17, _), (44, _), (82, _)] := hE.sel [2, 3, 6, 7, 8, 9, 10, 11, 12, 13, 14, 15, 16, 17, 44, 82] rfl
              replace hM : Mem _ _ w34 [_, _, _, _, _, _, _, _, _, _, _, _, _, _, _, _, _] := hM.pick [0, 1, 2, 3, 4, 5, 6, 7, 8, 9, 10, 11, 12, 13, 14, 15, 16] rfl
              refine q_then_n ⟨_, hE.sel [2, 3, 6, 7, 8, 9, 10, 11, 12, 13, 14, 15, 16, 17, 44, 82] rfl, hM⟩
            trivial
          trivial
        trivial
      refine o_or rfl ?_ ?_
      · refine s_alloc [32] hE hM zero23 rfl rfl ?_; clear hE a; intro a b16 w31 hE hM'
        clear hM; have hM := hM'; clear hM'
        refine q_nil (q_nx ?_)
        refine o_re ?_
        refine o_fl rfl ?_
        refine q_nil (q_nx ?_)
        refine o_fl rfl ?_
        refine q_nil (q_nx ?_)
        refine o_or rfl ?_ ?_
        · refine s_call hE rfl Tryd.call15 (label10_c k l n _ hl_k) rfl ?_
          rintro e w32 ⟨rfl, hN⟩
          refine ⟨_, rfl, hN.sta0 _, ?_⟩; clear hE a; intro a hE
          replace hM : Mem _ _ w32 [_, _, _, _, _, _, _, _, _, _, _, _, _, _, _, _, _] := hM.call0 hN trivial; clear hN
          refine q_nil (q_nx ?_)
          refine o_cut (fun _ => True) ?_
          refine o_re ?_
          refine o_fl rfl ?_
          refine q_nil (q_nx ?_)
          refine o_fl rfl ?_
          refine q_nil (q_nx ?_)
          refine o_or rfl ?_ ?_
          · refine s_call hE rfl Tryd.call16 (unwrap_c k (l.take (min l.length 100)) n (wrapD k (l.take (min l.length 100)) n p) (tagB k (l.take (min l.length 100)) n (wrapD k (l.take (min l.length 100)) n p)) _ (hM.get 15 rfl) (hM.get 16 rfl) hl_k hlD hlT (by have hl_0 : k.length = 32 := hl_k; have hl_1 : (l.take (min l.length 100)).length = min l.length 100 := (by rw [List.length_take]; omega); have hl_3d : (wrapD k (l.take (min l.length 100)) n p).length = 32 := hlD; have hl_3t : (tagB k (l.take (min l.length 100)) n (wrapD k (l.take (min l.length 100)) n p)).length = 32 := hlT; first | omega | assumption | (simp; done) | (simp; omega) | decide) (by have hl_0 : k.length = 32 := hl_k; have hl_1 : (l.take (min l.length 100)).length = min l.length 100 := (by rw [List.length_take]; omega); have hl_3d : (wrapD k (l.take (min l.length 100)) n p).length = 32 := hlD; have hl_3t : (tagB k (l.take (min l.length 100)) n (wrapD k (l.take (min l.length 100)) n p)).length = 32 := hlT; first | omega | assumption | (simp; done) | (simp; omega) | decide)) rfl ?_
            rintro e w33 ⟨rfl, hN⟩
            refine ⟨_, rfl, hN.sta0 _, ?_⟩; clear hE a; intro a hE
            replace hM : Mem _ _ w33 [_, _, _, _, _, _, _, _, _, _, _, _, _, _, _, _, _] := hM.call0 hN trivial; clear hN
            refine q_nil (q_nx ?_)
            refine o_re ?_
            refine o_fl rfl ?_
            refine s_move hE rfl rfl ?_; clear hE a; intro a hE
            refine s_extract hE rfl rfl rfl ?_; clear hE a; intro a hE
            refine s_extract hE rfl rfl rfl ?_; clear hE a; intro a hE
            refine q_nil (q_nx ?_)
            refine o_fl rfl ?_
            refine q_nil (q_nx ?_)
            refine o_weak (fun b => b = b16) (fun _ _ => trivial) ?_
            refine o_or rfl ?_ ?_
            · refine s_storeSeg 0 hE rfl rfl hM rfl sz23 ((bv_length _).trans (unwK_len (k := k) (l := (l.take (min l.length 100))) (n := n) (d := (wrapD k (l.take (min l.length 100)) n p)) (t := (tagB k (l.take (min l.length 100)) n (wrapD k (l.take (min l.length 100)) n p))) (by have hl_std : (wrapD k (l.take (min l.length 100)) n p).length = 32 := hlD; first | assumption | (simp; done)))) (bv_one _) rfl ((bv_length _).trans (by first | (simp; done) | (simp [*]; done) | (simp; omega))) rfl (by intro X h; cases h; rfl) ?_; intro w34 hM'; clear hM; have hM := hM'; clear hM'
              simp only [List.set_cons_zero, List.set_cons_succ] at hM
              refine q_nil (q_nx ?_)
              refine o_cut (fun _ => True) ?_
              refine o_re ?_
              refine o_weak (fun _ => False) (fun _ _ => trivial) ?_
              refine o_leaf rfl rfl ?_
              refine s_assign hE rfl rfl ?_; clear hE a; intro a hE
              refine q_nil (q_ph (q_nil ?_))
              replace hE : Env a 133 [(2, _), (3, _), (6, _), (7, _), (8, _), (9, _), (10, _), (11, _), (12, _), (13, _), (14, _), (15, _), (16, _), (17, _), (44, _), (82, _)] := hE.sel [2, 3, 6, 7, 8, 9, 10, 11, 12, 13, 14, 15, 16, 17, 44, 82] rfl
              replace hM : Mem _ _ w34 [_, _, _, _, _, _, _, _, _, _, _, _, _, _, _, _, _] := hM.pick [0, 1, 2, 3, 4, 5, 6, 7, 8, 9, 10, 11, 12, 13, 14, 15, 16] rfl
              refine q_then_n ⟨_, hE.sel [2, 3, 6, 7, 8, 9, 10, 11, 12, 13, 14, 15, 16, 17, 44, 82] rfl, hM⟩
            trivial
          trivial
        trivial
      trivial
    clear hE hM a; rintro a w35 ⟨b16, hE, hM⟩
    refine wp_seq_k (fun K11 hK11 => ?_)
    refine wp_plain [true, true, true, true, true, true, true, true, true, true, true, true, true, true, true, true, true, true, true, true, true, true, true, true, false, true, true] rfl rfl ?_
    refine s_move hE rfl rfl ?_; clear hE a; intro a hE
    refine s_bin hE rfl rfl bin_eql rfl ?_; clear hE a; intro a hE
    replace hE := hE.cast 108 rfl (show _ = Value.bool true from (congrArg Value.bool (by decide)))
    refine s_move hE rfl rfl ?_; clear hE a; intro a hE
    refine g_yes hE rfl rfl ?_
    refine s_move hE rfl rfl ?_; clear hE a; intro a hE
    refine g_yes hE rfl rfl ?_
    refine s_bin hE rfl rfl bin_eql rfl ?_; clear hE a; intro a hE
    refine s_pickt hE rfl rfl rfl ?_; clear hE a; intro a hE
    refine s_move hE rfl rfl ?_; clear hE a; intro a hE
    replace hE := hE.cast 113 rfl (show _ = Value.bool true from (congrArg Value.bool (by rw [hok.2]; rfl)))
    refine g_yes hE rfl rfl ?_
    refine s_loadN hE rfl (hM.get 1 rfl) row29 rfl (by intro X h; cases h) rfl ?_; clear hE a; intro a hE
    replace hE := hE.cast 114 rfl (show _ = Value.agg ([bv (wrapD k (l.take (min l.length 100)) n p), bv (tagB k (l.take (min l.length 100)) n (wrapD k (l.take (min l.length 100)) n p))] : List (List Value)).flatten.toArray from (by first | (simp only [List.flatten_cons, List.flatten_nil, List.append_nil, List.append_assoc]; done) | rfl | simp))
    refine g_yes hE rfl rfl ?_
    refine s_loadN hE rfl (hM.get 8 rfl) row29 rfl (by intro X h; cases h) rfl ?_; clear hE a; intro a hE
    replace hE := hE.cast 115 rfl (show _ = Value.agg ([bv (wrapD k (l.take (min l.length 100)) n p), bv (tagB k (l.take (min l.length 100)) n (wrapD k (l.take (min l.length 100)) n p))] : List (List Value)).flatten.toArray from (by first | (simp only [List.flatten_cons, List.flatten_nil, List.append_nil, List.append_assoc]; done) | rfl | simp))
    refine g_yes hE rfl rfl ?_
    refine s_bin hE rfl rfl ((eqk29 (b := decide ((wrapD k (l.take (min l.length 100)) n p) = (wrapD k (l.take (min l.length 100)) n p) ∧ (tagB k (l.take (min l.length 100)) n (wrapD k (l.take (min l.length 100)) n p)) = (tagB k (l.take (min l.length 100)) n (wrapD k (l.take (min l.length 100)) n p)))) (kl29 (k := 0) (x0 := (wrapD k (l.take (min l.length 100)) n p)) (x1 := (tagB k (l.take (min l.length 100)) n (wrapD k (l.take (min l.length 100)) n p))) hlD hlT) (kl29 (k := 0) (x0 := wrapD k (l.take (min l.length 100)) n p) (x1 := tagB k (l.take (min l.length 100)) n (wrapD k (l.take (min l.length 100)) n p)) (wrapD_len (k := k) (l := (l.take (min l.length 100))) (n := n) (x := p) (by have hl_ax : p.length = 32 := hl_p; first | assumption | (simp; done))) (tagB_len k (l.take (min l.length 100)) n (wrapD k (l.take (min l.length 100)) n p))) (by rw [flat_eq (by have hl_x0 : (wrapD k (l.take (min l.length 100)) n p).length = 32 := hlD; have hl_x1 : (tagB k (l.take (min l.length 100)) n (wrapD k (l.take (min l.length 100)) n p)).length = 32 := hlT; have hl_y0 : (wrapD k (l.take (min l.length 100)) n p).length = 32 := (wrapD_len (k := k) (l := (l.take (min l.length 100))) (n := n) (x := p) (by have hl_ax : p.length = 32 := hl_p; first | assumption | (simp; done))); have hl_y1 : (tagB k (l.take (min l.length 100)) n (wrapD k (l.take (min l.length 100)) n p)).length = 32 := (tagB_len k (l.take (min l.length 100)) n (wrapD k (l.take (min l.length 100)) n p)); simp only [List.map_cons, List.map_nil, bv_length, List.length_cons, List.length_nil, hl_x0, hl_x1, hl_y0, hl_y1])]; simp [bv_iff, Int.ofNat_inj]; try omega)).1) rfl ?_; clear hE a; intro a hE
    refine s_pickt hE rfl rfl rfl ?_; clear hE a; intro a hE
    refine s_move hE rfl rfl ?_; clear hE a; intro a hE
    replace hE := hE.cast 118 rfl (show _ = Value.bool true from (congrArg Value.bool (by first | (with_reducible exact decide_eq_true rfl) | (with_reducible exact decide_eq_true ⟨rfl, rfl⟩) | (simp; done))))
    refine g_yes hE rfl rfl ?_
    refine s_loadN hE rfl (hM.get 0 rfl) row23 rfl (by intro X h; cases h) rfl ?_; clear hE a; intro a hE
    refine g_yes hE rfl rfl ?_
    refine s_loadN hE rfl (hM.get 11 rfl) row23 rfl (by intro X h; cases h) rfl ?_; clear hE a; intro a hE
    refine g_yes hE rfl rfl ?_
    refine s_bin hE rfl rfl (eqa23 (unwK_len (k := k) (l := (l.take (min l.length 100))) (n := n) (d := (wrapD k (l.take (min l.length 100)) n p)) (t := (tagB k (l.take (min l.length 100)) n (wrapD k (l.take (min l.length 100)) n p))) (by have hl_std : (wrapD k (l.take (min l.length 100)) n p).length = 32 := hlD; first | assumption | (simp; done))) hl_p).1 rfl ?_; clear hE a; intro a hE
    refine s_pickt hE rfl rfl rfl ?_; clear hE a; intro a hE
    refine s_move hE rfl rfl ?_; clear hE a; intro a hE
    replace hE := hE.cast 123 rfl (show _ = Value.bool true from (congrArg Value.bool (by rw [hok.1]; exact decide_eq_true rfl)))
    refine g_yes hE rfl rfl ?_
    refine s_move hE rfl rfl ?_; clear hE a; intro a hE
    refine g_yes hE rfl rfl ?_
    obtain ⟨cs125, hs125⟩ := own_rd (hM.get 2 rfl)
    refine s_toStr hE rfl Tryd.underlying42 Tryd.underlying5 Tryd.underlying9 hs125 (by intro X h; cases h) rfl ?_; clear hE a; intro a hE
    refine g_yes hE rfl rfl ?_
    refine s_move hE rfl rfl ?_; clear hE a; intro a hE
    refine g_yes hE rfl rfl ?_
    refine s_toStr hE rfl Tryd.underlying42 Tryd.underlying5 Tryd.underlying9 (hM.get 9 rfl) (by intro X h; cases h) rfl ?_; clear hE a; intro a hE
    refine g_yes hE rfl rfl ?_
    refine s_bin hE rfl rfl bins_str.1 rfl ?_; clear hE a; intro a hE
    refine s_pickt hE rfl rfl rfl ?_; clear hE a; intro a hE
    refine s_move hE rfl rfl ?_; clear hE a; intro a hE
    replace hE := hE.cast 130 rfl (show _ = Value.bool true from (congrArg Value.bool (by first | (with_reducible exact decide_eq_true rfl) | (with_reducible exact decide_eq_true ⟨rfl, rfl⟩) | (simp; done))))
    refine g_yes hE rfl rfl ?_
    refine s_call hE rfl Tryd.call17 (works10_c  _ (hM.get 15 rfl) (hM.get 16 rfl)) rfl ?_
    rintro e w36 ⟨rfl, hN⟩
    refine ⟨_, rfl, trivial, ?_⟩; clear hE a; intro a hE
    replace hM : Mem _ _ w36 [_, _, _, _, _, _, _, _, _, _, _, _, _, _, _, _, _] := hM.call0 hN trivial; clear hN
    refine s_pickt hE rfl rfl rfl ?_; clear hE a; intro a hE
    refine s_assign hE rfl rfl ?_; clear hE a; intro a hE
    refine q_nil ?_
    replace hE : Env a 133 [(2, _), (3, _), (6, _), (7, _), (8, _), (9, _), (10, _), (11, _), (12, _), (13, _), (16, _), (44, _), (82, _)] := hE.sel [2, 3, 6, 7, 8, 9, 10, 11, 12, 13, 16, 44, 82] rfl
    refine hK11 _ _ ?_
    refine wp_ret ?_
    refine f_ret1 hE rfl rfl ?_
    exact ⟨(by first | rfl | (simp; done)), hM.pick [] rfl⟩
set_option maxRecDepth 100000 in
theorem boxBack_lifted (os : Os) (started : os.Started) (H : Type) (enc : TypeId × Value → H) :
    ReturnsInHanded {} Tryd.checked os 6 .any (fun w args => (Rows.boxBackSpec.pre enc Tryd.prog Tryd.f6 [] false w args ∧ laidMetH Tryd.prog Rows.boxBackRow.laid w) ∧ sizedMet enc Tryd.prog Tryd.f6 (OpenSpec.ofChange Rows.boxBackSpec) false w args) (Rows.boxBackSpec.post enc Tryd.prog Tryd.f6 false true false false) := by
  refine law_liftedL (C := Tryd.checked) (fn := Tryd.f6) (l := Rows.boxBackRow.laid) (by kernel_rfl) started (by kernel_rfl) Tryd.func6 rfl (fun ds hl => ?_) rfl Tryd.underlying4 (by kernel_rfl) (of_decide_eq_true (by kernel_rfl)) (by kernel_rfl)
    (ChangeSpec.witness_shaped (enc := enc) (C := Tryd.checked) (os := os) (X := fun w _ => laidMetH Tryd.prog Rows.boxBackRow.laid w) false (World.laidAll Tryd.prog os Rows.boxBackRow.laid) #[.agg (bv (List.replicate 32 0) ++ [Value.string .empty, Value.int .u64 0]).toArray, .agg (bv (List.replicate 64 0)).toArray, .slice none 0 0] 8 (World.laidAll_os _ _ _) (World.shaped_of_ZipB (by kernel_rfl) (by kernel_rfl)) (by kernel_rfl) (by kernel_rfl) (by kernel_rfl) (by rw [MakeChecks.laidMetH_plain _ _ _ (by kernel_rfl)]; exact laidMet_laidAll _ (by kernel_rfl) (by kernel_rfl))) ?_
  · rw [Tryd.params6] at hl
    match ds, hl with
    | [_, _, _], _ => rfl
  · intro W base args ds ps hval hA hw hL
    have hG := glb_of_laid (P := Tryd.prog) (g := 1) (t := 170) (e := 129) (by kernel_rfl) (by kernel_rfl) Tryd.underlying170 Tryd.underlying129 (by kernel_rfl) (by kernel_rfl) (by kernel_rfl) (show laidMet Tryd.prog (_ :: _) W from (laidMet_tail (laidMet_tail (laidMet_tail hL))))
    have hT : tabP.holds W := tabE_of_laid (P := Tryd.prog) (g := 0) (t := 163) (e := 24) (n := 20) (by kernel_rfl) (by kernel_rfl) Tryd.underlying163 Tryd.underlying24 (by kernel_rfl) (by kernel_rfl) (by kernel_rfl) (show laidMet Tryd.prog (_ :: _) W from (laidMet_tail (laidMet_tail hL)))
    rw [Tryd.params6] at hA hval hw
    obtain ⟨v0, vs0, d0, ds0, p0, q0, hargs, rfl, rfl, h0, r0⟩ := trodAll_cons hA
    obtain ⟨v1, vs1, d1, ds1, p1, q1, rfl, rfl, rfl, h1, r1⟩ := trodAll_cons r0
    obtain ⟨v2, vs2, d2, ds2, p2, q2, rfl, rfl, rfl, h2, r2⟩ := trodAll_cons r1
    obtain ⟨rfl, rfl, rfl⟩ := trodAll_nil r2
    obtain rfl : args = #[v0, v1, v2] := by cases args; simp_all
    obtain ⟨cs0, rfl, hcs0⟩ := okWide_struct Tryd.underlying26 (hval 0 26 v0 rfl rfl)
    obtain ⟨_, _, _, hc0, ⟨bk, rfl, hbk⟩, ⟨sl, rfl, hsl⟩, ⟨zn, rfl, hn1, hn2⟩⟩ := trod_of (dec_f3 (t := 26) (s := 34) (n0 := 32) (n1 := 1) (n2 := 1) (o2 := 33) Tryd.underlying26 (by kernel_rfl) (by kernel_rfl) rfl rfl (dec_arr8 (n := 32) Tryd.underlying23 Tryd.underlying5 (by kernel_rfl) (by kernel_rfl)) (dec_string Tryd.underlying9) (dec_int Tryd.underlying24)) h0 (fun m hm => hw m (by simp only [DataW.weightsEach, List.mem_append]; exact .inl hm))
    obtain ⟨n, rfl⟩ := Int.eq_ofNat_of_zero_le (show 0 ≤ zn from hn1)
    have hn : n < 18446744073709551616 := by have h : (n : Int) ≤ 18446744073709551615 := hn2; omega
    obtain ⟨l, rfl⟩ := str_of sl
    have ecs0 := agg_of hc0
    subst ecs0
    obtain ⟨cs1, rfl⟩ := okWide_arr Tryd.underlying49 (hval 1 49 v1 rfl rfl)
    obtain ⟨_, _, hc1, ⟨p, rfl, hlp⟩, ⟨q, rfl, hlq⟩⟩ := trod_of (dec_a2 (t := 49) (es := 32) Tryd.underlying49 (by kernel_rfl) (by kernel_rfl) (dec_arr8 (n := 32) Tryd.underlying23 Tryd.underlying5 (by kernel_rfl) (by kernel_rfl))) h1 (fun m hm => hw m (by simp only [DataW.weightsEach, List.mem_append]; exact .inr (.inl hm)))
    have ecs1 := agg_of hc1
    subst ecs1
    obtain ⟨bs2, c2, hr2, hb2⟩ := arg_bytes Tryd.underlying42 Tryd.underlying5 (by kernel_rfl) (by kernel_rfl) (hval 2 42 v2 rfl rfl) h2 (fun m hm => hw m (by simp only [DataW.weightsEach, List.mem_append]; exact .inr (.inr (.inl hm))))
    have ef : ∀ (a b : List Value), ([a, b] : List (List Value)).flatten = a ++ b := fun a b => by simp
    have ef3 : ∀ (a b c : List Value), ([a, b, c] : List (List Value)).flatten = a ++ (b ++ c) := fun a b c => by simp
    exact (by have h := boxBack_c bk l n p q v2 bs2 c2 W hG hT hbk hr2 hn hlp hlq; rw [ef, ef3] at h; exact h)

/-- The row's statement. -/
theorem boxBack_row : Rows.BoxBackSaid :=
  OpenClaim.holds_of_wide 6 Tryd.f6 rfl rfl rfl rfl rfl rfl rfl ⟨rfl, rfl, rfl, rfl, rfl⟩ rfl rfl rfl rfl rfl (by kernel_rfl) Tryd.func6 (by kernel_rfl)
    (of_decide_eq_true (by kernel_rfl)) (by unfold Func.isWrapper; first | (rw [if_pos (by decide +kernel)]; kernel_rfl) | (rw [if_neg (by decide +kernel)]; exact ⟨rfl, rfl⟩))
    (fun os started H enc _ => boxBack_lifted os started H enc)

/-- The statement: the row, its listed variable tied to the program's text. -/
theorem boxBack_holds : Rows.BoxBackCardSaid :=
  Claim7.holds_tied_plain_at .later [] [.data, .data, .data, .data] true (true, "260fdf816069b3bf8e1fff31512b0488977d0f5c26e19155cc996da54a266071") false
    boxBack_row (fun _ h => by cases h) (by kernel_rfl) (fun _ h => by cases h) boxBack_row_tie rfl ⟨rfl, rfl⟩ (by kernel_rfl) rfl
    (fun f fn hf hfn => by
      obtain rfl : f = 6 := Option.some.inj ((show Tryd.prog.funcNamed "casemate/casematelaw10.BoxBack" = some 6 by kernel_rfl).symm.trans hf) |>.symm
      obtain rfl : fn = Tryd.f6 := (Option.some.inj (Tryd.func6.symm.trans hfn)).symm
      exact ⟨by kernel_rfl, fun j t ht => by
        rw [Tryd.params6] at ht
        have h : t ∈ [26, 49, 42] := by
          rcases j with _ | _ | _ | j
          · simp at ht; simp [ht]
          · simp at ht; simp [ht]
          · simp at ht; simp [ht]
          · simp at ht
        simp only [List.mem_cons, List.not_mem_nil, or_false] at h
        rcases h with rfl | rfl | rfl
        · exact (show Tryd.prog.wantsStandIn 26 = false by kernel_rfl)
        · exact (show Tryd.prog.wantsStandIn 49 = false by kernel_rfl)
        · exact (show Tryd.prog.wantsStandIn 42 = false by kernel_rfl)⟩)
    (by kernel_rfl)
#print axioms boxBack_holds
end Go.Proofs.YtniekapfoaiieaaDoor
