/- PbkdfKeys of casematelaw05 returns true for whatever bytes, salt, number of rounds and size; they read behind the call as before. No condition. -/
import Derived.Test.YthagednepehliaaDoorLr
import Derived.Test.YthagednepehliaaDoorTie
import Derived.Test.YthagednepehliaaDoorCards
namespace Go.Proofs.YthagednepehliaaDoor
open Go Go.Kx
open Go.ChangeShapes Go.WideShapes Go.ChangeAt Go.RowKit
theorem fo34_0 : fieldOff Tryd.prog 34 0 = some 0 := by kernel_rfl
theorem fo34_1 : fieldOff Tryd.prog 34 1 = some 1 := by kernel_rfl
theorem fo34_2 : fieldOff Tryd.prog 34 2 = some 2 := by kernel_rfl
theorem fo34_3 : fieldOff Tryd.prog 34 3 = some 3 := by kernel_rfl
theorem row34 : RowT Tryd.prog 34 4 := RowT.of Tryd.underlying34 rfl (by kernel_rfl)
theorem rblk_c (v u : Value) (pass salt : List UInt8) (c cu r q : Nat) (w : World) (hr : (rd v 1 pass.length c (bv pass)).holds w) (hu : (rd u 1 salt.length cu (bv salt)).holds w) (hk : pass.length ≤ 100000) (hf : salt.length ≤ 100000) (h1 : 1 ≤ r) (hrr : r ≤ 4096) (hq : q ≤ 4) : Calls Tryd.prog 39 #[v, u, .int .i64 (r : Int), .int .i64 (q : Int)] w fun e w' => ∃ v', e = .returned v' ∧ Mem w [] w' [own v' 1 (oW pass salt (UInt8.ofNat q) r).length (bv (oW pass salt (UInt8.ofNat q) r))] := by
  have hM := Mem.startR2 hr hu rfl rfl
  refine f_enter 63 Tryd.func39 rfl rfl rfl ?_
  intro a hE
  replace hE : Env a 63 [(0, _), (1, _), (2, _), (3, _)] := hE
  refine wp_seq_k (fun K1 hK1 => ?_)
  refine wp_plain [true] rfl rfl ?_
  refine s_assign hE rfl rfl ?_; clear hE a; intro a hE
  refine q_nil ?_
  refine hK1 _ _ ?_
  refine wp_seq_k (fun K2 hK2 => ?_)
  refine wp_plain [true] rfl rfl ?_
  refine s_assign hE rfl rfl ?_; clear hE a; intro a hE
  refine q_nil ?_
  refine hK2 _ _ ?_
  refine wp_seq_k (fun K3 hK3 => ?_)
  refine wp_plain [true, true, false, true] rfl rfl ?_
  refine s_move hE rfl rfl ?_; clear hE a; intro a hE
  refine s_move hE rfl rfl ?_; clear hE a; intro a hE
  replace hM := hM.addNil 1
  replace hM := hM.ownEq (m' := ([] : List UInt8).length) (cs' := bv []) rfl rfl
  refine s_append hE rfl rfl hM sl22 (Src.rd Tryd.underlying22 (hM.get 2 rfl) (bv_one _)) (len47 (by first | omega | (simp; omega))) (by first | omega | (simp; omega)) (by intro X h; cases h) rfl ?_; clear hE a; intro a v17 w1 hE hM'; clear hM; have hM := hM'; clear hM'
  replace hM := Mem.ownNil (q := salt) hM rfl (by first | rfl | (simp; done))
  refine s_assign hE rfl rfl ?_; clear hE a; intro a hE
  refine q_nil ?_
  replace hE : Env a 63 [(0, _), (2, _), (3, _), (8, _), (9, _)] := hE.sel [0, 2, 3, 8, 9] rfl
  refine hK3 _ _ ?_
  refine wp_seq_k (fun K4 hK4 => ?_)
  refine wp_plain [true, true, true, true, true, true, true, true, true, true, true, true, false, false, true] rfl rfl ?_
  refine s_move hE rfl rfl ?_; clear hE a; intro a hE
  refine s_move hE rfl rfl ?_; clear hE a; intro a hE
  refine s_bin hE rfl rfl (bin_quo_nat (m := q) (s := 16777216) (by decide) (wrap_i64 (by omega) (by omega))) rfl ?_; clear hE a; intro a hE
  refine s_conv hE rfl (cnv_int Tryd.underlying3 Tryd.underlying5 (wrap_u8_ofNat (q / 16777216))) rfl ?_; clear hE a; intro a hE
  refine s_move hE rfl rfl ?_; clear hE a; intro a hE
  refine s_bin hE rfl rfl (bin_quo_nat (m := q) (s := 65536) (by decide) (wrap_i64 (by omega) (by omega))) rfl ?_; clear hE a; intro a hE
  refine s_conv hE rfl (cnv_int Tryd.underlying3 Tryd.underlying5 (wrap_u8_ofNat (q / 65536))) rfl ?_; clear hE a; intro a hE
  refine s_move hE rfl rfl ?_; clear hE a; intro a hE
  refine s_bin hE rfl rfl (bin_quo_nat (m := q) (s := 256) (by decide) (wrap_i64 (by omega) (by omega))) rfl ?_; clear hE a; intro a hE
  refine s_conv hE rfl (cnv_int Tryd.underlying3 Tryd.underlying5 (wrap_u8_ofNat (q / 256))) rfl ?_; clear hE a; intro a hE
  refine s_move hE rfl rfl ?_; clear hE a; intro a hE
  refine s_conv hE rfl (cnv_int Tryd.underlying3 Tryd.underlying5 (wrap_u8_ofNat (q))) rfl ?_; clear hE a; intro a hE
  refine s_buildSlice (xs := [.tmp 21, .tmp 24, .tmp 27, .tmp 29]) (bv [UInt8.ofNat (q / 16777216), UInt8.ofNat (q / 65536), UInt8.ofNat (q / 256), UInt8.ofNat q]) hE hM sl22 rfl rfl rfl (by intro v hv; first | (cases hv; done) | (obtain ⟨x, _, rfl⟩ := List.mem_map.1 (show v ∈ bv [UInt8.ofNat (q / 16777216), UInt8.ofNat (q / 65536), UInt8.ofNat (q / 256), UInt8.ofNat q] from hv); rfl)) rfl rfl rfl rfl ?_; clear hE a; intro a v30 w2 hE hM'
  clear hM; have hM := hM'; clear hM'
  replace hM := hM.ownEq (m' := [UInt8.ofNat (q / 16777216), UInt8.ofNat (q / 65536), UInt8.ofNat (q / 256), UInt8.ofNat q].length) (cs' := bv [UInt8.ofNat (q / 16777216), UInt8.ofNat (q / 65536), UInt8.ofNat (q / 256), UInt8.ofNat q]) rfl rfl
  replace hM : Mem _ _ w2 [_, _, _, _] := hM.pick [1, 0, 2, 3] rfl
  obtain ⟨cq1, hq1⟩ := own_rd (hM.get 1 rfl)
  refine s_append hE rfl rfl hM sl22 (Src.rd Tryd.underlying22 hq1 (bv_one _)) (len47 (by first | omega | (simp; omega))) (by first | omega | (simp; omega)) (by intro X h; cases h) rfl ?_; clear hE a; intro a v31 w3 hE hM'; clear hM; have hM := hM'; clear hM'
  replace hM := Mem.ownApp (p := salt) (q := [UInt8.ofNat (q / 16777216), UInt8.ofNat (q / 65536), UInt8.ofNat (q / 256), UInt8.ofNat q]) hM (by first | rfl | (simp; done))
  replace hM : Mem _ _ w3 [_, _, _] := hM.pick [0, 2, 3] rfl
  refine s_assign hE rfl rfl ?_; clear hE a; intro a hE
  refine q_nil ?_
  replace hE : Env a 63 [(0, _), (2, _), (8, _), (9, _)] := hE.sel [0, 2, 8, 9] rfl
  refine hK4 _ _ ?_
  refine wp_seq_k (fun K5 hK5 => ?_)
  refine wp_plain [true, true, false, false, false] rfl rfl ?_
  refine s_move hE rfl rfl ?_; clear hE a; intro a hE
  refine s_move hE rfl rfl ?_; clear hE a; intro a hE
  obtain ⟨cq2, hq2⟩ := own_rd (hM.get 0 rfl)
  refine s_call hE rfl Tryd.call37 (rof_c _ _ pass (salt ++ [UInt8.ofNat (q / 16777216), UInt8.ofNat (q / 65536), UInt8.ofNat (q / 256), UInt8.ofNat q]) _ _ _ (hM.get 1 rfl) hq2 (by first | omega | assumption | (simp; done) | (simp; omega) | decide) (by first | omega | assumption | (simp; done) | (simp; omega) | decide)) rfl ?_
  rintro e w4 ⟨rfl, hN⟩
  refine ⟨_, rfl, trivial, ?_⟩; clear hE a; intro a hE
  replace hM : Mem _ _ w4 [_, _, _] := hM.call0 hN trivial; clear hN
  refine s_alloc [32] hE hM zero42 rfl rfl ?_; clear hE a; intro a b10 w5 hE hM'
  clear hM; have hM := hM'; clear hM'
  refine s_storeSeg 0 hE rfl rfl hM rfl sz42 (by simp) (bv_one _) rfl (by simp) rfl (by intro X h; cases h) ?_; intro w6 hM'; clear hM; have hM := hM'; clear hM'
  simp only [List.set_cons_zero, List.set_cons_succ] at hM
  replace hM := Mem.blkB (p := hmacW pass (salt ++ [UInt8.ofNat (q / 16777216), UInt8.ofNat (q / 65536), UInt8.ofNat (q / 256), UInt8.ofNat q])) (q := uW pass salt (UInt8.ofNat q) 0) hM (by rw [show UInt8.ofNat (q / 16777216) = 0 from by rw [show q / 16777216 = 0 by omega]; rfl, show UInt8.ofNat (q / 65536) = 0 from by rw [show q / 65536 = 0 by omega]; rfl, show UInt8.ofNat (q / 256) = 0 from by rw [show q / 256 = 0 by omega]; rfl]; exact uW_zero ..)
  refine q_nil ?_
  replace hE : Env a 63 [(0, _), (2, _), (8, _), (9, _), (10, _)] := hE.sel [0, 2, 8, 9, 10] rfl
  refine hK5 _ _ ?_
  refine wp_seq_k (fun K6 hK6 => ?_)
  refine wp_plain [true, false, true] rfl rfl ?_
  refine s_loadN hE rfl (hM.get 0 rfl) row42 rfl (by intro X h; cases h) rfl ?_; clear hE a; intro a hE
  refine s_call hE rfl Tryd.call50 (rbytes_c (uW pass salt (UInt8.ofNat q) 0) _ (by first | omega | assumption | (simp; done) | (simp; omega) | decide)) rfl ?_
  rintro e w7 ⟨v36, rfl, hN⟩
  refine ⟨_, rfl, trivial, ?_⟩; clear hE a; intro a hE
  replace hM : Mem _ _ w7 [_, _, _, _, _] := hM.call0 hN ⟨rfl, trivial⟩; clear hN
  refine s_assign hE rfl rfl ?_; clear hE a; intro a hE
  refine q_nil ?_
  replace hE : Env a 63 [(0, _), (2, _), (8, _), (9, _), (10, _), (11, _)] := hE.sel [0, 2, 8, 9, 10, 11] rfl
  refine hK6 _ _ ?_
  refine wp_seq_k (fun K7 hK7 => ?_)
  refine wp_seq_k (fun K8 hK8 => ?_)
  refine wp_plain [true] rfl rfl ?_
  refine s_assign hE rfl rfl ?_; clear hE a; intro a hE
  refine q_nil ?_
  refine hK8 _ _ ?_
  refine wp_block ?_
  replace hM : Mem _ _ w7 [_, _, _] := hM.pick [0, 1, 3] rfl
  replace hM := Mem.ownB (p := uW pass salt (UInt8.ofNat q) 0) (q := oW pass salt (UInt8.ofNat q) (0 + 1)) hM (by rw [show (0 + 1) = 1 from rfl, oW_one])
  replace hM : Mem _ _ w7 [_, _, _] := hM.pick [1, 0, 2] rfl
  replace hM : Mem _ _ w7 [_, _, _] := hM.pick [1, 0, 2] rfl
  refine c_loop (fun (i : Nat) a w' => i ≤ (r - 1) ∧ Env a 63 [(0, v), (2, .int .i64 ((r : Nat) : Int)), (8, .slice none 0 0), (9, v31), (10, .pointer (some ⟨b10, 0, none⟩)), (11, v36), (12, .int .i64 ((i + 2 : Nat) : Int))] ∧ Mem w [] w' [own v36 1 (oW pass salt (UInt8.ofNat q) (i + 1)).length (bv (oW pass salt (UInt8.ofNat q) (i + 1))), blk b10 [bv (uW pass salt (UInt8.ofNat q) i)] [32] 42, rd v 1 pass.length c (bv pass)]) (fun i => (r - 1) - i) 0 ⟨Nat.zero_le _, hE.sel [0, 2, 8, 9, 10, 11, 12] rfl, hM⟩ ?_
  clear hE hM a; rintro i a w8 ⟨hi, hE, hM⟩
  refine wp_seq_k (fun K9 hK9 => ?_)
  refine wp_seq_k (fun K10 hK10 => ?_)
  refine wp_plain [true, true, true] rfl rfl ?_
  refine s_move hE rfl rfl ?_; clear hE a; intro a hE
  refine s_move hE rfl rfl ?_; clear hE a; intro a hE
  refine s_bin hE rfl rfl bin_leq rfl ?_; clear hE a; intro a hE
  refine q_nil ?_
  replace hE : Env a 63 [(0, _), (2, _), (8, _), (9, _), (10, _), (11, _), (12, _), (39, _)] := hE.sel [0, 2, 8, 9, 10, 11, 12, 39] rfl
  refine hK10 _ _ ?_
  refine hE.split 39 rfl (fun hb39 hE' => ?_) (fun hb39 hE' => ?_)
  · replace hE := hE'; clear hE'
    replace hb39 := of_decide_eq_true hb39
    replace hb39 : i < (r - 1) := by omega
    refine wp_cond_true (hE.eval rfl) ?_
    refine wp_skip ?_
    refine hK9 _ _ ?_
    refine wp_seq_k (fun K11 hK11 => ?_)
    refine wp_block ?_
    refine wp_seq_k (fun K12 hK12 => ?_)
    refine wp_plain [true, false, true] rfl rfl ?_
    refine s_loadN hE rfl (hM.get 1 rfl) row42 rfl (by intro X h; cases h) rfl ?_; clear hE a; intro a hE
    refine s_call hE rfl Tryd.call50 (rbytes_c (uW pass salt (UInt8.ofNat q) i) _ (by first | omega | assumption | (simp; done) | (simp; omega) | decide)) rfl ?_
    rintro e w9 ⟨v43, rfl, hN⟩
    refine ⟨_, rfl, trivial, ?_⟩; clear hE a; intro a hE
    replace hM : Mem _ _ w9 [_, _, _, _] := hM.call0 hN ⟨rfl, trivial⟩; clear hN
    refine s_assign hE rfl rfl ?_; clear hE a; intro a hE
    refine q_nil ?_
    replace hE : Env a 63 [(0, _), (2, _), (8, _), (9, _), (10, _), (11, _), (12, _), (13, _), (39, _)] := hE.sel [0, 2, 8, 9, 10, 11, 12, 13, 39] rfl
    refine hK12 _ _ ?_
    refine wp_seq_k (fun K13 hK13 => ?_)
    refine wp_plain [true, true, false, false] rfl rfl ?_
    refine s_move hE rfl rfl ?_; clear hE a; intro a hE
    refine s_move hE rfl rfl ?_; clear hE a; intro a hE
    obtain ⟨cq3, hq3⟩ := own_rd (hM.get 0 rfl)
    refine s_call hE rfl Tryd.call37 (rof_c _ _ pass (uW pass salt (UInt8.ofNat q) i) _ _ _ (hM.get 3 rfl) hq3 (by first | omega | assumption | (simp; done) | (simp; omega) | decide) (by first | omega | assumption | (simp; done) | (simp; omega) | decide)) rfl ?_
    rintro e w10 ⟨rfl, hN⟩
    refine ⟨_, rfl, trivial, ?_⟩; clear hE a; intro a hE
    replace hM : Mem _ _ w10 [_, _, _, _] := hM.call0 hN trivial; clear hN
    replace hM : Mem _ _ w10 [_, _, _, _] := hM.pick [2, 0, 1, 3] rfl
    refine s_storeSeg 0 hE rfl rfl hM rfl sz42 (by simp) (bv_one _) rfl (by simp) rfl (by intro X h; cases h) ?_; intro w11 hM'; clear hM; have hM := hM'; clear hM'
    simp only [List.set_cons_zero, List.set_cons_succ] at hM
    replace hM := Mem.blkB (p := hmacW pass (uW pass salt (UInt8.ofNat q) i)) (q := uW pass salt (UInt8.ofNat q) (i + 1)) hM rfl
    refine q_nil ?_
    replace hE : Env a 63 [(0, _), (2, _), (8, _), (9, _), (10, _), (11, _), (12, _), (13, _), (39, _)] := hE.sel [0, 2, 8, 9, 10, 11, 12, 13, 39] rfl
    refine hK13 _ _ ?_
    refine wp_seq_k (fun K14 hK14 => ?_)
    refine wp_plain [true] rfl rfl ?_
    refine s_assign hE rfl rfl ?_; clear hE a; intro a hE
    refine q_nil ?_
    refine hK14 _ _ ?_
    refine wp_block ?_
    replace hM : Mem _ _ w11 [_, _, _, _] := hM.pick [2, 0, 1, 3] rfl
    replace hM := Mem.ownB (p := oW pass salt (UInt8.ofNat q) (i + 1)) (q := xorI (oW pass salt (UInt8.ofNat q) (i + 1)) (uW pass salt (UInt8.ofNat q) (i + 1)) 0) hM (by rw [xorI_zero])
    replace hM : Mem _ _ w11 [_, _, _, _] := hM.pick [1, 2, 0, 3] rfl
    refine c_loop (fun (k : Nat) a w' => k ≤ 32 ∧ Env a 63 [(0, v), (2, .int .i64 ((r : Nat) : Int)), (8, .slice none 0 0), (9, v31), (10, .pointer (some ⟨b10, 0, none⟩)), (11, v36), (12, .int .i64 ((i + 2 : Nat) : Int)), (13, v43), (14, .int .i64 ((k : Nat) : Int)), (39, .bool true)] ∧ Mem w [] w' [blk b10 [bv (uW pass salt (UInt8.ofNat q) (i + 1))] [32] 42, own v43 1 (uW pass salt (UInt8.ofNat q) i).length (bv (uW pass salt (UInt8.ofNat q) i)), own v36 1 (xorI (oW pass salt (UInt8.ofNat q) (i + 1)) (uW pass salt (UInt8.ofNat q) (i + 1)) k).length (bv (xorI (oW pass salt (UInt8.ofNat q) (i + 1)) (uW pass salt (UInt8.ofNat q) (i + 1)) k)), rd v 1 pass.length c (bv pass)]) (fun k => 32 - k) 0 ⟨Nat.zero_le _, hE.sel [0, 2, 8, 9, 10, 11, 12, 13, 14, 39] rfl, hM⟩ ?_
    clear hE hM a; rintro k a w12 ⟨hk, hE, hM⟩
    refine wp_seq_k (fun K15 hK15 => ?_)
    refine wp_seq_k (fun K16 hK16 => ?_)
    refine wp_plain [true, true] rfl rfl ?_
    refine s_move hE rfl rfl ?_; clear hE a; intro a hE
    refine s_bin hE rfl rfl bin_lss rfl ?_; clear hE a; intro a hE
    refine q_nil ?_
    replace hE : Env a 63 [(0, _), (2, _), (8, _), (9, _), (10, _), (11, _), (12, _), (13, _), (14, _), (39, _), (48, _)] := hE.sel [0, 2, 8, 9, 10, 11, 12, 13, 14, 39, 48] rfl
    refine hK16 _ _ ?_
    refine hE.split 48 rfl (fun hb48 hE' => ?_) (fun hb48 hE' => ?_)
    · replace hE := hE'; clear hE'
      replace hb48 := of_decide_eq_true hb48
      replace hb48 : k < 32 := by omega
      refine wp_cond_true (hE.eval rfl) ?_
      refine wp_skip ?_
      refine hK15 _ _ ?_
      refine wp_seq_k (fun K17 hK17 => ?_)
      refine wp_block ?_
      refine wp_drawnM2 hM (by kernel_rfl) (fun _ => False) (fun _ => True) [(0, true), (1, true), (2, true), (3, true), (4, true), (5, true), (6, true), (7, true), (8, true), (9, true), (10, true)] [(11, false)] [(11, []), (4, [(5, 4), (9, 5), (10, 4), (11, 4)]), (5, [(9, 5), (10, 5), (11, 5)]), (7, [(8, 7), (9, 8), (10, 7), (11, 7)]), (8, [(9, 8), (10, 8), (11, 8)]), (9, [(10, 9), (11, 9)]), (10, [(11, 10)])] (by kernel_rfl) (by kernel_rfl) rfl rfl ?_
      intro w13 hM' hww13; clear hM; have hM := hM'; clear hM'
      refine s_move hE rfl rfl ?_; clear hE a; intro a hE
      refine s_move hE rfl rfl ?_; clear hE a; intro a hE
      refine s_move hE rfl rfl ?_; clear hE a; intro a hE
      refine s_move hE rfl rfl ?_; clear hE a; intro a hE
      obtain ⟨cx55, hx55⟩ := own_rd (hM.get 2 rfl)
      refine s_indexRd (j := k) hE rfl hx55 rfl slt22 (by first | rfl | omega) (by have hl_ : (xorI (oW pass salt (UInt8.ofNat q) (i + 1)) (uW pass salt (UInt8.ofNat q) (i + 1)) k).length = 32 := ((xorI_length (by simp) _).trans (by simp)); first | omega | (simp; omega)) rfl ?_; clear hE a; intro a p55 hE hc55 hp55
      rw [bv_elem (by have hl_ : (xorI (oW pass salt (UInt8.ofNat q) (i + 1)) (uW pass salt (UInt8.ofNat q) (i + 1)) k).length = 32 := ((xorI_length (by simp) _).trans (by simp)); first | omega | (simp; omega))] at hc55
      refine s_loadAt1 hE rfl hc55 one5 (by intro X h; cases h; simp) rfl ?_; clear hE a; intro a hE
      refine s_move hE rfl rfl ?_; clear hE a; intro a hE
      refine s_indexArr (j := k) hE rfl rfl arr42 (by first | rfl | omega) (by first | omega | decide) rfl ?_; clear hE a; intro a hE
      refine s_loadIdx (j := k) hE rfl (by omega) (hM.get 0 rfl) (bv_get (by have hl_ : (uW pass salt (UInt8.ofNat q) (i + 1)).length = 32 := (by first | (simp; done) | (simp [*]; done) | (simp; omega)); first | omega | (simp; omega))) one5 (by intro X h; cases h; simp) rfl ?_; clear hE a; intro a hE
      refine s_bin hE rfl rfl (bin_xor8 (x := (xorI (oW pass salt (UInt8.ofNat q) (i + 1)) (uW pass salt (UInt8.ofNat q) (i + 1)) k).getD k 0) (y := (uW pass salt (UInt8.ofNat q) (i + 1)).getD k 0)) rfl ?_; clear hE a; intro a hE
      refine s_indexOwn (j := k) hE rfl (hM.get 2 rfl) rfl slt22 (by first | rfl | omega) (by have hl_ : (xorI (oW pass salt (UInt8.ofNat q) (i + 1)) (uW pass salt (UInt8.ofNat q) (i + 1)) k).length = 32 := ((xorI_length (by simp) _).trans (by simp)); first | omega | (simp; omega)) rfl ?_; clear hE a; intro a hE hc61
      refine q_nil (q_ph ?_)
      replace hM : Mem _ _ w13 [_, _, _, _] := hM.pick [2, 0, 1, 3] rfl
      refine s_storeOwn (vs := [_]) hE rfl rfl hM rfl sz5 rfl (one1 rfl) (by have hl_ : (xorI (oW pass salt (UInt8.ofNat q) (i + 1)) (uW pass salt (UInt8.ofNat q) (i + 1)) k).length = 32 := ((xorI_length (by simp) _).trans (by simp)); first | omega | (simp; omega)) (by have hl_ : (xorI (oW pass salt (UInt8.ofNat q) (i + 1)) (uW pass salt (UInt8.ofNat q) (i + 1)) k).length = 32 := ((xorI_length (by simp) _).trans (by simp)); first | omega | (simp; omega)) (by intro X h; cases h; first | (simp; done) | simp [valBlocks]) ?_; intro w14 hM'; clear hM; have hM := hM'; clear hM'
      replace hM := Mem.ownSet (p := xorI (oW pass salt (UInt8.ofNat q) (i + 1)) (uW pass salt (UInt8.ofNat q) (i + 1)) k) (j := k) (b := ((xorI (oW pass salt (UInt8.ofNat q) (i + 1)) (uW pass salt (UInt8.ofNat q) (i + 1)) k).getD k 0) ^^^ ((uW pass salt (UInt8.ofNat q) (i + 1)).getD k 0)) hM (by have hl_ : (xorI (oW pass salt (UInt8.ofNat q) (i + 1)) (uW pass salt (UInt8.ofNat q) (i + 1)) k).length = 32 := ((xorI_length (by simp) _).trans (by simp)); first | omega | (simp; omega))
      refine q_nil ?_
      replace hE : Env a 63 [(0, _), (2, _), (8, _), (9, _), (10, _), (11, _), (12, _), (13, _), (14, _), (39, _), (48, _)] := hE.sel [0, 2, 8, 9, 10, 11, 12, 13, 14, 39, 48] rfl
      refine q_block_n ?_
      refine hK17 _ _ ?_
      refine wp_plain [true, true, true] rfl rfl ?_
      refine s_move hE rfl rfl ?_; clear hE a; intro a hE
      refine s_bin hE rfl rfl (show Bin _ _ _ _ _ (.int .i64 ((k + 1 : Nat) : Int)) from bin_add (by rw [wrap_i64 (by omega) (by omega)]; omega)) rfl ?_; clear hE a; intro a hE
      refine s_assign hE rfl rfl ?_; clear hE a; intro a hE
      refine q_nil ?_
      replace hE : Env a 63 [(0, _), (2, _), (8, _), (9, _), (10, _), (11, _), (12, _), (13, _), (14, _), (39, _), (48, _)] := hE.sel [0, 2, 8, 9, 10, 11, 12, 13, 14, 39, 48] rfl
      replace hE := hE.cast 14 rfl (show _ = Value.int .i64 (((k + 1) : Nat) : Int) from congrArg _ (by omega))
      replace hM := Mem.ownB (p := (xorI (oW pass salt (UInt8.ofNat q) (i + 1)) (uW pass salt (UInt8.ofNat q) (i + 1)) k).set k (((xorI (oW pass salt (UInt8.ofNat q) (i + 1)) (uW pass salt (UInt8.ofNat q) (i + 1)) k).getD k 0) ^^^ ((uW pass salt (UInt8.ofNat q) (i + 1)).getD k 0))) (q := xorI (oW pass salt (UInt8.ofNat q) (i + 1)) (uW pass salt (UInt8.ofNat q) (i + 1)) (k + 1)) hM (by rw [xorI_get (by simp) (by simp; omega)]; exact xorI_set (by simp) (by simp; omega))
      replace hM : Mem _ _ w14 [_, _, _, _] := hM.pick [0, 1, 2, 3] rfl
      replace hM : Mem _ _ w14 [_, _, _, _] := hM.pick [1, 2, 0, 3] rfl
      exact ⟨k + 1, ⟨by omega, hE.sel [0, 2, 8, 9, 10, 11, 12, 13, 14, 39] rfl, hM⟩, by omega⟩
    · replace hE := hE'; clear hE'
      replace hb48 := of_decide_eq_false hb48
      obtain rfl : 32 = k := by omega
      replace hM : Mem _ _ w12 [_, _, _, _] := hM.pick [2, 0, 1, 3] rfl
      replace hM := Mem.ownB (p := xorI (oW pass salt (UInt8.ofNat q) (i + 1)) (uW pass salt (UInt8.ofNat q) (i + 1)) 32) (q := oW pass salt (UInt8.ofNat q) (i + 2)) hM (by rw [show (32 : Nat) = (oW pass salt (UInt8.ofNat q) (i + 1)).length by simp, xorI_all (by simp)]; rfl)
      refine wp_cond_false (hE.eval rfl) ?_
      refine wp_exit ?_
      refine q_then_e ?_
      refine q_then_e ?_
      refine q_block_x ?_
      refine q_block_n ?_
      refine hK11 _ _ ?_
      refine wp_plain [true, true, true] rfl rfl ?_
      refine s_move hE rfl rfl ?_; clear hE a; intro a hE
      refine s_bin hE rfl rfl (show Bin _ _ _ _ _ (.int .i64 (((i + 2) + 1 : Nat) : Int)) from bin_add (by rw [wrap_i64 (by omega) (by omega)]; omega)) rfl ?_; clear hE a; intro a hE
      refine s_assign hE rfl rfl ?_; clear hE a; intro a hE
      refine q_nil ?_
      replace hE : Env a 63 [(0, _), (2, _), (8, _), (9, _), (10, _), (11, _), (12, _), (13, _), (14, _), (39, _), (48, _)] := hE.sel [0, 2, 8, 9, 10, 11, 12, 13, 14, 39, 48] rfl
      replace hE := hE.cast 12 rfl (show _ = Value.int .i64 (((i + 1) + 2 : Nat) : Int) from congrArg _ (by omega))
      replace hM := Mem.ownB (p := oW pass salt (UInt8.ofNat q) (i + 2)) (q := oW pass salt (UInt8.ofNat q) ((i + 1) + 1)) hM rfl
      replace hM : Mem _ _ w12 [_, _, _, _] := hM.pick [1, 0, 2, 3] rfl
      replace hM : Mem _ _ w12 [_, _, _] := hM.pick [0, 1, 3] rfl
      replace hM : Mem _ _ w12 [_, _, _] := hM.pick [1, 0, 2] rfl
      exact ⟨i + 1, ⟨by omega, hE.sel [0, 2, 8, 9, 10, 11, 12] rfl, hM⟩, by omega⟩
  · replace hE := hE'; clear hE'
    replace hb39 := of_decide_eq_false hb39
    obtain rfl : (r - 1) = i := by omega
    refine wp_cond_false (hE.eval rfl) ?_
    refine wp_exit ?_
    refine q_then_e ?_
    refine q_then_e ?_
    refine q_block_x ?_
    refine hK7 _ _ ?_
    refine wp_seq_k (fun K11 hK11 => ?_)
    refine wp_plain [true, true] rfl rfl ?_
    refine s_move hE rfl rfl ?_; clear hE a; intro a hE
    refine s_assign hE rfl rfl ?_; clear hE a; intro a hE
    refine q_nil ?_
    replace hE : Env a 63 [(0, _), (2, _), (8, _), (9, _), (10, _), (11, _), (12, _), (39, _)] := hE.sel [0, 2, 8, 9, 10, 11, 12, 39] rfl
    refine hK11 _ _ ?_
    refine wp_ret ?_
    refine f_ret1 hE rfl rfl ?_
    refine ⟨_, rfl, ?_⟩
    rw [show r - 1 + 1 = r by omega] at hM
    exact hM.pick [0] rfl
theorem keyw_c (v u : Value) (pass salt : List UInt8) (c cu r size : Nat) (w : World) (hG : (glb 0).holds w) (hr : (rd v 1 pass.length c (bv pass)).holds w) (hu : (rd u 1 salt.length cu (bv salt)).holds w) (hk : pass.length ≤ 100000) (hf : salt.length ≤ 100000) (h1 : 1 ≤ r) (hrr : r ≤ 4096) (h3 : 1 ≤ size) (h4 : size ≤ 128) : Calls Tryd.prog 21 #[v, u, .int .i64 (r : Int), .int .i64 (size : Int)] w fun e w' => ∃ v', e = .returned (.tuple #[v', .int .i64 0]) ∧ Mem w [] w' [ownW v' 1 (keyW pass salt r size).length (bv (keyW pass salt r size))] := by
  have hM : Mem w [] w [rd v 1 pass.length c (bv pass), rd u 1 salt.length cu (bv salt), glb 0] := Mem.startR w (fun g hg => by
    simp only [List.mem_cons, List.not_mem_nil, or_false] at hg
    rcases hg with rfl | rfl | rfl
    · exact ⟨hr, rfl⟩
    · exact ⟨hu, rfl⟩
    · exact ⟨hG, rfl⟩)
  refine f_enter 45 Tryd.func21 rfl rfl rfl ?_
  intro a hE
  replace hE : Env a 45 [(0, _), (1, _), (2, _), (3, _)] := hE
  refine wp_seq_k (fun K1 hK1 => ?_)
  refine wp_plain [true, true] rfl rfl ?_
  refine s_assign hE rfl rfl ?_; clear hE a; intro a hE
  refine s_assign hE rfl rfl ?_; clear hE a; intro a hE
  refine q_nil ?_
  refine hK1 _ _ ?_
  refine wp_seq_k (fun K2 hK2 => ?_)
  refine wp_seq_k (fun K3 hK3 => ?_)
  refine wp_plain [true, true, true, true, true, true, true, true, true, true, true, true, true, true] rfl rfl ?_
  refine s_move hE rfl rfl ?_; clear hE a; intro a hE
  refine s_bin hE rfl rfl bin_lss rfl ?_; clear hE a; intro a hE
  refine s_move hE rfl rfl ?_; clear hE a; intro a hE
  replace hE := hE.cast 15 rfl (show _ = Value.bool false from (congrArg Value.bool (by first | exact decide_eq_false (by omega) | (rw [decide_eq_true (by omega)]; rfl) | (rw [decide_eq_false (by omega)]; rfl) | rfl | decide | (simp; done) | (simp; omega) | (simp [*]; done))))
  refine g_yes hE rfl rfl ?_
  refine s_move hE rfl rfl ?_; clear hE a; intro a hE
  refine g_yes hE rfl rfl ?_
  refine s_bin hE rfl rfl bin_gtr rfl ?_; clear hE a; intro a hE
  refine s_pickf hE rfl rfl rfl ?_; clear hE a; intro a hE
  refine s_move hE rfl rfl ?_; clear hE a; intro a hE
  replace hE := hE.cast 19 rfl (show _ = Value.bool false from (congrArg Value.bool (by first | exact decide_eq_false (by omega) | (rw [decide_eq_true (by omega)]; rfl) | (rw [decide_eq_false (by omega)]; rfl) | rfl | decide | (simp; done) | (simp; omega) | (simp [*]; done))))
  refine g_yes hE rfl rfl ?_
  refine s_move hE rfl rfl ?_; clear hE a; intro a hE
  refine g_yes hE rfl rfl ?_
  refine s_bin hE rfl rfl bin_lss rfl ?_; clear hE a; intro a hE
  refine s_pickf hE rfl rfl rfl ?_; clear hE a; intro a hE
  refine s_move hE rfl rfl ?_; clear hE a; intro a hE
  replace hE := hE.cast 23 rfl (show _ = Value.bool false from (congrArg Value.bool (by first | exact decide_eq_false (by omega) | (rw [decide_eq_true (by omega)]; rfl) | (rw [decide_eq_false (by omega)]; rfl) | rfl | decide | (simp; done) | (simp; omega) | (simp [*]; done))))
  refine g_yes hE rfl rfl ?_
  refine s_move hE rfl rfl ?_; clear hE a; intro a hE
  refine g_yes hE rfl rfl ?_
  refine s_bin hE rfl rfl bin_gtr rfl ?_; clear hE a; intro a hE
  refine s_pickf hE rfl rfl rfl ?_; clear hE a; intro a hE
  refine q_nil ?_
  replace hE : Env a 45 [(0, _), (1, _), (2, _), (3, _), (8, _), (9, _), (26, _)] := hE.sel [0, 1, 2, 3, 8, 9, 26] rfl
  refine hK3 _ _ ?_
  replace hE := hE.cast 26 rfl (show _ = Value.bool false from (congrArg Value.bool (by first | exact decide_eq_false (by omega) | (rw [decide_eq_true (by omega)]; rfl) | (rw [decide_eq_false (by omega)]; rfl) | rfl | decide | (simp; done) | (simp; omega) | (simp [*]; done))))
  refine wp_cond_false (hE.eval rfl) ?_
  refine wp_skip ?_
  refine hK2 _ _ ?_
  refine wp_seq_k (fun K4 hK4 => ?_)
  refine wp_plain [true] rfl rfl ?_
  refine s_assign hE rfl rfl ?_; clear hE a; intro a hE
  refine q_nil ?_
  refine hK4 _ _ ?_
  refine wp_seq_k (fun K5 hK5 => ?_)
  refine wp_seq_k (fun K6 hK6 => ?_)
  refine wp_plain [true] rfl rfl ?_
  refine s_assign hE rfl rfl ?_; clear hE a; intro a hE
  refine q_nil ?_
  refine hK6 _ _ ?_
  refine wp_block ?_
  replace hM := hM.addNil 1
  replace hM := hM.ownEq (m' := ([] : List UInt8).length) (cs' := bv []) rfl rfl
  replace hM := Mem.ownB (p := ([] : List UInt8)) (q := keyP pass salt r 0) hM (by first | with_reducible rfl | (simp; done) | (simp [*]; done) | rfl)
  refine c_loop (fun (j : Nat) a w' => j ≤ ((size + 31) / 32) ∧ ∃ vl10, Env a 45 [(0, v), (1, u), (2, .int .i64 ((r : Nat) : Int)), (3, .int .i64 ((size : Nat) : Int)), (8, .slice none 0 0), (9, .int .i64 0), (10, vl10), (11, .int .u8 ((UInt8.ofNat (j + 1)).toNat : Int)), (26, .bool false)] ∧ Mem w [] w' [own vl10 1 (keyP pass salt r j).length (bv (keyP pass salt r j)), rd v 1 pass.length c (bv pass), rd u 1 salt.length cu (bv salt), glb 0]) (fun j => ((size + 31) / 32) - j) 0 ⟨Nat.zero_le _, _, hE.sel [0, 1, 2, 3, 8, 9, 10, 11, 26] rfl, hM⟩ ?_
  clear hE hM a; rintro j a w1 ⟨hj, vl10, hE, hM⟩
  refine wp_seq_k (fun K7 hK7 => ?_)
  refine wp_seq_k (fun K8 hK8 => ?_)
  refine wp_plain [true, true, true, true] rfl rfl ?_
  refine s_move hE rfl rfl ?_; clear hE a; intro a hE
  refine s_len hE rfl Tryd.underlying22 (own_slice (hM.get 0 rfl)) rfl ?_; clear hE a; intro a hE
  replace hE := hE.cast 28 rfl (show _ = Value.int .i64 ((32 * j : Nat) : Int) from (congrArg (fun n : Nat => Value.int .i64 (n : Int)) (by first | (simp; done) | (simp [*]; done) | (simp; omega))))
  refine s_move hE rfl rfl ?_; clear hE a; intro a hE
  refine s_bin hE rfl rfl bin_lss rfl ?_; clear hE a; intro a hE
  refine q_nil ?_
  replace hE : Env a 45 [(0, _), (1, _), (2, _), (3, _), (8, _), (9, _), (10, _), (11, _), (26, _), (30, _)] := hE.sel [0, 1, 2, 3, 8, 9, 10, 11, 26, 30] rfl
  refine hK8 _ _ ?_
  refine hE.split 30 rfl (fun hb30 hE' => ?_) (fun hb30 hE' => ?_)
  · replace hE := hE'; clear hE'
    replace hb30 := of_decide_eq_true hb30
    replace hb30 : j < ((size + 31) / 32) := by omega
    refine wp_cond_true (hE.eval rfl) ?_
    refine wp_skip ?_
    refine hK7 _ _ ?_
    refine wp_seq_k (fun K9 hK9 => ?_)
    refine wp_block ?_
    refine wp_seq_k (fun K10 hK10 => ?_)
    refine wp_plain [true, true, true, true, false, false, false] rfl rfl ?_
    refine s_move hE rfl rfl ?_; clear hE a; intro a hE
    refine s_move hE rfl rfl ?_; clear hE a; intro a hE
    refine s_move hE rfl rfl ?_; clear hE a; intro a hE
    refine s_move hE rfl rfl ?_; clear hE a; intro a hE
    refine s_call hE rfl Tryd.call33 (block_c _ _ pass salt _ _ r (UInt8.ofNat (j + 1)) _ (hM.get 3 rfl) (hM.get 1 rfl) (hM.get 2 rfl) (by first | omega | assumption | (simp; done) | (simp; omega) | decide) (by first | omega | assumption | (simp; done) | (simp; omega) | decide) (by first | omega | assumption | (simp; done) | (simp; omega) | decide)) rfl ?_
    rintro e w2 ⟨rfl, hN⟩
    refine ⟨_, rfl, trivial, ?_⟩; clear hE a; intro a hE
    replace hM : Mem _ _ w2 [_, _, _, _] := hM.call0 hN trivial; clear hN
    refine s_alloc [32] hE hM zero41 rfl rfl ?_; clear hE a; intro a b12 w3 hE hM'
    clear hM; have hM := hM'; clear hM'
    refine s_storeSeg 0 hE rfl rfl hM rfl sz41 (by simp) (bv_one _) rfl (by simp) rfl (by intro X h; cases h) ?_; intro w4 hM'; clear hM; have hM := hM'; clear hM'
    simp only [List.set_cons_zero, List.set_cons_succ] at hM
    refine q_nil ?_
    replace hE : Env a 45 [(0, _), (1, _), (2, _), (3, _), (8, _), (9, _), (10, _), (11, _), (12, _), (26, _), (30, _)] := hE.sel [0, 1, 2, 3, 8, 9, 10, 11, 12, 26, 30] rfl
    refine hK10 _ _ ?_
    refine wp_plain [true, true, false, true] rfl rfl ?_
    refine s_move hE rfl rfl ?_; clear hE a; intro a hE
    refine s_sliceArr (l := 0) (h := 32) (mx' := 32) hE rfl arr41 rfl rfl rfl (by simp) (by omega) (by omega) (by omega) rfl ?_; clear hE a; intro a hE
    replace hE := hE.cast 39 rfl (show _ = Value.slice (some ⟨b12, 0, none⟩) 32 32 from rfl)
    replace hM : Mem _ _ w4 [_, _, _, _, _] := hM.pick [1, 0, 2, 3, 4] rfl
    refine s_append hE rfl rfl hM sl22 (Src.rd Tryd.underlying22 (rd_of_arr (hM.get 1 rfl) (by simp)) (bv_one _)) (len47 (by first | omega | (simp; omega))) (by first | omega | (simp; omega)) (by intro X h; cases h) rfl ?_; clear hE a; intro a v40 w5 hE hM'; clear hM; have hM := hM'; clear hM'
    replace hM := Mem.ownApp (p := keyP pass salt r j) (q := oW pass salt (UInt8.ofNat (j + 1)) r) hM (by first | rfl | (simp; done))
    refine s_assign hE rfl rfl ?_; clear hE a; intro a hE
    refine q_nil ?_
    replace hE : Env a 45 [(0, _), (1, _), (2, _), (3, _), (8, _), (9, _), (10, _), (11, _), (12, _), (26, _), (30, _)] := hE.sel [0, 1, 2, 3, 8, 9, 10, 11, 12, 26, 30] rfl
    refine q_block_n ?_
    refine hK9 _ _ ?_
    refine wp_plain [true, true, true] rfl rfl ?_
    refine s_move hE rfl rfl ?_; clear hE a; intro a hE
    refine s_bin hE rfl rfl (bin_inc_u8 (b := UInt8.ofNat (j + 1))) rfl ?_; clear hE a; intro a hE
    refine s_assign hE rfl rfl ?_; clear hE a; intro a hE
    refine q_nil ?_
    replace hE : Env a 45 [(0, _), (1, _), (2, _), (3, _), (8, _), (9, _), (10, _), (11, _), (12, _), (26, _), (30, _)] := hE.sel [0, 1, 2, 3, 8, 9, 10, 11, 12, 26, 30] rfl
    replace hE := hE.cast 11 rfl (show _ = Value.int .u8 ((UInt8.ofNat (j + 1 + 1)).toNat : Int) from by rw [UInt8.ofNat_add (j + 1) 1]; rfl)
    replace hM := Mem.ownB (p := (keyP pass salt r j) ++ (oW pass salt (UInt8.ofNat (j + 1)) r)) (q := keyP pass salt r (j + 1)) hM rfl
    replace hM : Mem _ _ w5 [_, _, _, _] := hM.pick [0, 2, 3, 4] rfl
    exact ⟨j + 1, ⟨by omega, _, hE.sel [0, 1, 2, 3, 8, 9, 10, 11, 26] rfl, hM⟩, by omega⟩
  · replace hE := hE'; clear hE'
    replace hb30 := of_decide_eq_false hb30
    obtain rfl : ((size + 31) / 32) = j := by omega
    refine wp_cond_false (hE.eval rfl) ?_
    refine wp_exit ?_
    refine q_then_e ?_
    refine q_then_e ?_
    refine q_block_x ?_
    refine hK5 _ _ ?_
    refine wp_seq_k (fun K9 hK9 => ?_)
    refine wp_plain [true, true, true, true, true, true] rfl rfl ?_
    refine s_move hE rfl rfl ?_; clear hE a; intro a hE
    refine s_move hE rfl rfl ?_; clear hE a; intro a hE
    refine s_move hE rfl rfl ?_; clear hE a; intro a hE
    refine s_slice3 (l := size) hE rfl (hM.get 0 rfl) slt22 rfl rfl (by have hl_ : (keyP pass salt r ((size + 31) / 32)).length = 32 * ((size + 31) / 32) := (by first | (simp; done) | (simp [*]; done) | (simp; omega)); first | omega | (simp; omega)) rfl ?_; clear hE a; intro a hE
    replace hM := hM.cutOwn (l := size) (by have hl_ : (keyP pass salt r ((size + 31) / 32)).length = 32 * ((size + 31) / 32) := (by first | (simp; done) | (simp [*]; done) | (simp; omega)); first | omega | (simp; omega))
    replace hM := hM.ownWEq (m' := ((keyP pass salt r ((size + 31) / 32)).take size).length) (cs' := bv ((keyP pass salt r ((size + 31) / 32)).take size)) (by have hl_ : (keyP pass salt r ((size + 31) / 32)).length = 32 * ((size + 31) / 32) := (by first | (simp; done) | (simp [*]; done) | (simp; omega)); simp; omega) (by simp [bv])
    refine s_assign hE rfl rfl ?_; clear hE a; intro a hE
    refine s_assign hE rfl rfl ?_; clear hE a; intro a hE
    refine q_nil ?_
    replace hE : Env a 45 [(0, _), (1, _), (2, _), (3, _), (8, _), (9, _), (10, _), (11, _), (26, _), (30, _)] := hE.sel [0, 1, 2, 3, 8, 9, 10, 11, 26, 30] rfl
    refine hK9 _ _ ?_
    refine wp_ret ?_
    refine f_ret2 hE rfl rfl rfl ?_
    exact ⟨_, rfl, hM.pick [0] rfl⟩
theorem rkey_c (v u : Value) (pass salt : List UInt8) (c cu r size : Nat) (w : World) (hr : (rd v 1 pass.length c (bv pass)).holds w) (hu : (rd u 1 salt.length cu (bv salt)).holds w) (hk : pass.length ≤ 100000) (hf : salt.length ≤ 100000) (h1 : 1 ≤ r) (hrr : r ≤ 4096) (h3 : 1 ≤ size) (h4 : size ≤ 128) : Calls Tryd.prog 30 #[v, u, .int .i64 (r : Int), .int .i64 (size : Int)] w fun e w' => ∃ v', e = .returned (.tuple #[v', .int .i64 0]) ∧ Mem w [] w' [own v' 1 (keyW pass salt r size).length (bv (keyW pass salt r size))] := by
  have hM := Mem.startR2 hr hu rfl rfl
  refine f_enter 47 Tryd.func30 rfl rfl rfl ?_
  intro a hE
  replace hE : Env a 47 [(0, _), (1, _), (2, _), (3, _)] := hE
  refine wp_seq_k (fun K1 hK1 => ?_)
  refine wp_plain [true, true] rfl rfl ?_
  refine s_assign hE rfl rfl ?_; clear hE a; intro a hE
  refine s_assign hE rfl rfl ?_; clear hE a; intro a hE
  refine q_nil ?_
  refine hK1 _ _ ?_
  refine wp_seq_k (fun K2 hK2 => ?_)
  refine wp_seq_k (fun K3 hK3 => ?_)
  refine wp_plain [true, true, true, true, true, true, true, true, true, true, true, true, true, true] rfl rfl ?_
  refine s_move hE rfl rfl ?_; clear hE a; intro a hE
  refine s_bin hE rfl rfl bin_lss rfl ?_; clear hE a; intro a hE
  refine s_move hE rfl rfl ?_; clear hE a; intro a hE
  replace hE := hE.cast 15 rfl (show _ = Value.bool false from (congrArg Value.bool (by first | exact decide_eq_false (by omega) | (rw [decide_eq_true (by omega)]; rfl) | (rw [decide_eq_false (by omega)]; rfl) | rfl | decide | (simp; done) | (simp; omega) | (simp [*]; done))))
  refine g_yes hE rfl rfl ?_
  refine s_move hE rfl rfl ?_; clear hE a; intro a hE
  refine g_yes hE rfl rfl ?_
  refine s_bin hE rfl rfl bin_gtr rfl ?_; clear hE a; intro a hE
  refine s_pickf hE rfl rfl rfl ?_; clear hE a; intro a hE
  refine s_move hE rfl rfl ?_; clear hE a; intro a hE
  replace hE := hE.cast 19 rfl (show _ = Value.bool false from (congrArg Value.bool (by first | exact decide_eq_false (by omega) | (rw [decide_eq_true (by omega)]; rfl) | (rw [decide_eq_false (by omega)]; rfl) | rfl | decide | (simp; done) | (simp; omega) | (simp [*]; done))))
  refine g_yes hE rfl rfl ?_
  refine s_move hE rfl rfl ?_; clear hE a; intro a hE
  refine g_yes hE rfl rfl ?_
  refine s_bin hE rfl rfl bin_lss rfl ?_; clear hE a; intro a hE
  refine s_pickf hE rfl rfl rfl ?_; clear hE a; intro a hE
  refine s_move hE rfl rfl ?_; clear hE a; intro a hE
  replace hE := hE.cast 23 rfl (show _ = Value.bool false from (congrArg Value.bool (by first | exact decide_eq_false (by omega) | (rw [decide_eq_true (by omega)]; rfl) | (rw [decide_eq_false (by omega)]; rfl) | rfl | decide | (simp; done) | (simp; omega) | (simp [*]; done))))
  refine g_yes hE rfl rfl ?_
  refine s_move hE rfl rfl ?_; clear hE a; intro a hE
  refine g_yes hE rfl rfl ?_
  refine s_bin hE rfl rfl bin_gtr rfl ?_; clear hE a; intro a hE
  refine s_pickf hE rfl rfl rfl ?_; clear hE a; intro a hE
  refine q_nil ?_
  replace hE : Env a 47 [(0, _), (1, _), (2, _), (3, _), (8, _), (9, _), (26, _)] := hE.sel [0, 1, 2, 3, 8, 9, 26] rfl
  refine hK3 _ _ ?_
  replace hE := hE.cast 26 rfl (show _ = Value.bool false from (congrArg Value.bool (by first | exact decide_eq_false (by omega) | (rw [decide_eq_true (by omega)]; rfl) | (rw [decide_eq_false (by omega)]; rfl) | rfl | decide | (simp; done) | (simp; omega) | (simp [*]; done))))
  refine wp_cond_false (hE.eval rfl) ?_
  refine wp_skip ?_
  refine hK2 _ _ ?_
  refine wp_seq_k (fun K4 hK4 => ?_)
  refine wp_plain [true] rfl rfl ?_
  refine s_assign hE rfl rfl ?_; clear hE a; intro a hE
  refine q_nil ?_
  refine hK4 _ _ ?_
  refine wp_seq_k (fun K5 hK5 => ?_)
  refine wp_seq_k (fun K6 hK6 => ?_)
  refine wp_plain [true] rfl rfl ?_
  refine s_assign hE rfl rfl ?_; clear hE a; intro a hE
  refine q_nil ?_
  refine hK6 _ _ ?_
  refine wp_block ?_
  replace hM := hM.addNil 1
  replace hM := hM.ownEq (m' := ([] : List UInt8).length) (cs' := bv []) rfl rfl
  replace hM := Mem.ownB (p := ([] : List UInt8)) (q := keyP pass salt r (min 0 ((size + 31) / 32))) hM (by first | with_reducible rfl | (simp; done) | (simp [*]; done) | rfl)
  refine c_loop (fun (i : Nat) a w' => i ≤ 4 ∧ ∃ vl10, Env a 47 [(0, v), (1, u), (2, .int .i64 ((r : Nat) : Int)), (3, .int .i64 ((size : Nat) : Int)), (8, .slice none 0 0), (9, .int .i64 0), (10, vl10), (11, .int .i64 ((i + 1 : Nat) : Int)), (26, .bool false)] ∧ Mem w [] w' [own vl10 1 (keyP pass salt r (min i ((size + 31) / 32))).length (bv (keyP pass salt r (min i ((size + 31) / 32)))), rd v 1 pass.length c (bv pass), rd u 1 salt.length cu (bv salt)]) (fun i => 4 - i) 0 ⟨Nat.zero_le _, _, hE.sel [0, 1, 2, 3, 8, 9, 10, 11, 26] rfl, hM⟩ ?_
  clear hE hM a; rintro i a w1 ⟨hi, vl10, hE, hM⟩
  refine wp_seq_k (fun K7 hK7 => ?_)
  refine wp_seq_k (fun K8 hK8 => ?_)
  refine wp_plain [true, true] rfl rfl ?_
  refine s_move hE rfl rfl ?_; clear hE a; intro a hE
  refine s_bin hE rfl rfl bin_leq rfl ?_; clear hE a; intro a hE
  refine q_nil ?_
  replace hE : Env a 47 [(0, _), (1, _), (2, _), (3, _), (8, _), (9, _), (10, _), (11, _), (26, _), (28, _)] := hE.sel [0, 1, 2, 3, 8, 9, 10, 11, 26, 28] rfl
  refine hK8 _ _ ?_
  refine hE.split 28 rfl (fun hb28 hE' => ?_) (fun hb28 hE' => ?_)
  · replace hE := hE'; clear hE'
    replace hb28 := of_decide_eq_true hb28
    replace hb28 : i < 4 := by omega
    refine wp_cond_true (hE.eval rfl) ?_
    refine wp_skip ?_
    refine hK7 _ _ ?_
    refine wp_seq_k (fun K9 hK9 => ?_)
    refine wp_block ?_
    refine wp_seq_k (fun K10 hK10 => ?_)
    refine wp_plain [true, true, true, true, true] rfl rfl ?_
    refine s_move hE rfl rfl ?_; clear hE a; intro a hE
    refine s_bin hE rfl rfl (show Bin _ _ _ _ _ (.int .i64 (((i + 1) - 1 : Nat) : Int)) from bin_sub (by rw [wrap_i64 (by omega) (by omega)]; omega)) rfl ?_; clear hE a; intro a hE
    refine s_bin hE rfl rfl (show Bin _ _ _ _ _ (.int .i64 ((32 * ((i + 1) - 1) : Nat) : Int)) from bin_mul (by rw [wrap_i64 (by omega) (by omega)]; omega)) rfl ?_; clear hE a; intro a hE
    refine s_move hE rfl rfl ?_; clear hE a; intro a hE
    refine s_bin hE rfl rfl bin_lss rfl ?_; clear hE a; intro a hE
    refine q_nil ?_
    replace hE : Env a 47 [(0, _), (1, _), (2, _), (3, _), (8, _), (9, _), (10, _), (11, _), (26, _), (28, _), (35, _)] := hE.sel [0, 1, 2, 3, 8, 9, 10, 11, 26, 28, 35] rfl
    refine hK10 _ _ ?_
    refine hE.split 35 rfl (fun hb35 hE' => ?_) (fun hb35 hE' => ?_)
    · replace hE := hE'; clear hE'
      replace hb35 := of_decide_eq_true hb35
      refine wp_cond_true (hE.eval rfl) ?_
      refine wp_seq_k (fun K11 hK11 => ?_)
      refine wp_plain [true, true, true, true, false, true] rfl rfl ?_
      refine s_move hE rfl rfl ?_; clear hE a; intro a hE
      refine s_move hE rfl rfl ?_; clear hE a; intro a hE
      refine s_move hE rfl rfl ?_; clear hE a; intro a hE
      refine s_move hE rfl rfl ?_; clear hE a; intro a hE
      refine s_call hE rfl Tryd.call39 (rblk_c _ _ pass salt _ _ r (i + 1) _ (hM.get 1 rfl) (hM.get 2 rfl) (by first | omega | assumption | (simp; done) | (simp; omega) | decide) (by first | omega | assumption | (simp; done) | (simp; omega) | decide) (by first | omega | assumption | (simp; done) | (simp; omega) | decide) (by first | omega | assumption | (simp; done) | (simp; omega) | decide) (by first | omega | assumption | (simp; done) | (simp; omega) | decide)) rfl ?_
      rintro e w2 ⟨v40, rfl, hN⟩
      refine ⟨_, rfl, trivial, ?_⟩; clear hE a; intro a hE
      replace hM : Mem _ _ w2 [_, _, _, _] := hM.call0 hN ⟨rfl, trivial⟩; clear hN
      refine s_assign hE rfl rfl ?_; clear hE a; intro a hE
      refine q_nil ?_
      replace hE : Env a 47 [(0, _), (1, _), (2, _), (3, _), (8, _), (9, _), (10, _), (11, _), (12, _), (26, _), (28, _), (35, _)] := hE.sel [0, 1, 2, 3, 8, 9, 10, 11, 12, 26, 28, 35] rfl
      refine hK11 _ _ ?_
      refine wp_plain [true, true, false, true] rfl rfl ?_
      refine s_move hE rfl rfl ?_; clear hE a; intro a hE
      refine s_move hE rfl rfl ?_; clear hE a; intro a hE
      replace hM : Mem _ _ w2 [_, _, _, _] := hM.pick [1, 0, 2, 3] rfl
      obtain ⟨cq1, hq1⟩ := own_rd (hM.get 1 rfl)
      refine s_append hE rfl rfl hM sl22 (Src.rd Tryd.underlying22 hq1 (bv_one _)) (len47 (by first | omega | (simp; omega))) (by first | omega | (simp; omega)) (by intro X h; cases h) rfl ?_; clear hE a; intro a v43 w3 hE hM'; clear hM; have hM := hM'; clear hM'
      replace hM := Mem.ownApp (p := keyP pass salt r (min i ((size + 31) / 32))) (q := oW pass salt (UInt8.ofNat (i + 1)) r) hM (by first | rfl | (simp; done))
      refine s_assign hE rfl rfl ?_; clear hE a; intro a hE
      refine q_nil ?_
      replace hE : Env a 47 [(0, _), (1, _), (2, _), (3, _), (8, _), (9, _), (10, _), (11, _), (12, _), (26, _), (28, _), (35, _)] := hE.sel [0, 1, 2, 3, 8, 9, 10, 11, 12, 26, 28, 35] rfl
      refine q_block_n ?_
      refine hK9 _ _ ?_
      refine wp_plain [true, true, true] rfl rfl ?_
      refine s_move hE rfl rfl ?_; clear hE a; intro a hE
      refine s_bin hE rfl rfl (show Bin _ _ _ _ _ (.int .i64 (((i + 1) + 1 : Nat) : Int)) from bin_add (by rw [wrap_i64 (by omega) (by omega)]; omega)) rfl ?_; clear hE a; intro a hE
      refine s_assign hE rfl rfl ?_; clear hE a; intro a hE
      refine q_nil ?_
      replace hE : Env a 47 [(0, _), (1, _), (2, _), (3, _), (8, _), (9, _), (10, _), (11, _), (12, _), (26, _), (28, _), (35, _)] := hE.sel [0, 1, 2, 3, 8, 9, 10, 11, 12, 26, 28, 35] rfl
      replace hE := hE.cast 11 rfl (show _ = Value.int .i64 (((i + 1) + 1 : Nat) : Int) from congrArg _ (by omega))
      replace hM := Mem.ownB (p := (keyP pass salt r (min i ((size + 31) / 32))) ++ (oW pass salt (UInt8.ofNat (i + 1)) r)) (q := keyP pass salt r (min (i + 1) ((size + 31) / 32))) hM (by rw [show min (i + 1) ((size + 31) / 32) = i + 1 by omega, show min i ((size + 31) / 32) = i by omega]; rfl)
      replace hM : Mem _ _ w3 [_, _, _] := hM.pick [0, 2, 3] rfl
      exact ⟨i + 1, ⟨by omega, _, hE.sel [0, 1, 2, 3, 8, 9, 10, 11, 26] rfl, hM⟩, by omega⟩
    · replace hE := hE'; clear hE'
      replace hb35 := of_decide_eq_false hb35
      refine wp_cond_false (hE.eval rfl) ?_
      refine wp_skip ?_
      refine q_block_n ?_
      refine hK9 _ _ ?_
      refine wp_plain [true, true, true] rfl rfl ?_
      refine s_move hE rfl rfl ?_; clear hE a; intro a hE
      refine s_bin hE rfl rfl (show Bin _ _ _ _ _ (.int .i64 (((i + 1) + 1 : Nat) : Int)) from bin_add (by rw [wrap_i64 (by omega) (by omega)]; omega)) rfl ?_; clear hE a; intro a hE
      refine s_assign hE rfl rfl ?_; clear hE a; intro a hE
      refine q_nil ?_
      replace hE : Env a 47 [(0, _), (1, _), (2, _), (3, _), (8, _), (9, _), (10, _), (11, _), (26, _), (28, _), (35, _)] := hE.sel [0, 1, 2, 3, 8, 9, 10, 11, 26, 28, 35] rfl
      replace hE := hE.cast 11 rfl (show _ = Value.int .i64 (((i + 1) + 1 : Nat) : Int) from congrArg _ (by omega))
      replace hM := Mem.ownB (p := keyP pass salt r (min i ((size + 31) / 32))) (q := keyP pass salt r (min (i + 1) ((size + 31) / 32))) hM (by rw [show min (i + 1) ((size + 31) / 32) = min i ((size + 31) / 32) by omega])
      replace hM : Mem _ _ w1 [_, _, _] := hM.pick [0, 1, 2] rfl
      exact ⟨i + 1, ⟨by omega, _, hE.sel [0, 1, 2, 3, 8, 9, 10, 11, 26] rfl, hM⟩, by omega⟩
  · replace hE := hE'; clear hE'
    replace hb28 := of_decide_eq_false hb28
    obtain rfl : 4 = i := by omega
    refine wp_cond_false (hE.eval rfl) ?_
    refine wp_exit ?_
    refine q_then_e ?_
    refine q_then_e ?_
    refine q_block_x ?_
    refine hK5 _ _ ?_
    refine wp_seq_k (fun K9 hK9 => ?_)
    refine wp_plain [true, true, true, true, true] rfl rfl ?_
    refine s_move hE rfl rfl ?_; clear hE a; intro a hE
    refine s_move hE rfl rfl ?_; clear hE a; intro a hE
    refine s_sliceTo (l := size) hE rfl (hM.get 0 rfl) slt22 ⟨_, rfl⟩ (by first | omega | (simp; omega) | (simp [*]; omega)) rfl ?_; clear hE a; intro a hE
    refine s_assign hE rfl rfl ?_; clear hE a; intro a hE
    refine s_assign hE rfl rfl ?_; clear hE a; intro a hE
    refine q_nil ?_
    replace hE : Env a 47 [(0, _), (1, _), (2, _), (3, _), (8, _), (9, _), (10, _), (11, _), (26, _), (28, _)] := hE.sel [0, 1, 2, 3, 8, 9, 10, 11, 26, 28] rfl
    refine hK9 _ _ ?_
    refine wp_ret ?_
    refine f_ret2 hE rfl rfl rfl ?_
    rw [show min 4 ((size + 31) / 32) = ((size + 31) / 32) by omega] at hM
    replace hM := hM.subOwn (l := size) (by simp; omega)
    replace hM := hM.ownEq (m' := (keyW pass salt r size).length) (cs' := bv (keyW pass salt r size)) (by simp) (by simp [bv, keyW, List.map_take])
    exact ⟨_, rfl, hM.pick [0] rfl⟩
theorem rkey_bad (v u : Value) (z y : Int) (w : World) (h : z < 1 ∨ 4096 < z ∨ y < 1 ∨ 128 < y) : Calls Tryd.prog 30 #[v, u, .int .i64 z, .int .i64 y] w fun e w' => e = .returned (.tuple #[.slice none 0 0, .int .i64 2]) ∧ Mem w [] w' [] := by
  have hM := Mem.start0 w
  refine f_enter 47 Tryd.func30 rfl rfl rfl ?_
  intro a hE
  replace hE : Env a 47 [(0, _), (1, _), (2, _), (3, _)] := hE
  refine wp_seq_k (fun K1 hK1 => ?_)
  refine wp_plain [true, true] rfl rfl ?_
  refine s_assign hE rfl rfl ?_; clear hE a; intro a hE
  refine s_assign hE rfl rfl ?_; clear hE a; intro a hE
  refine q_nil ?_
  refine hK1 _ _ ?_
  refine wp_seq_k (fun K2 hK2 => ?_)
  refine wp_seq_k (fun K3 hK3 => ?_)
  refine wp_plain [true, true, true, true, true, true, true, true, true, true, true, true, true, true] rfl rfl ?_
  refine s_move hE rfl rfl ?_; clear hE a; intro a hE
  refine s_bin hE rfl rfl bin_lss rfl ?_; clear hE a; intro a hE
  refine s_move hE rfl rfl ?_; clear hE a; intro a hE
  refine hE.split 15 rfl (fun hb15 hE' => ?_) (fun hb15 hE' => ?_)
  · replace hE := hE'; clear hE'
    replace hb15 := of_decide_eq_true hb15
    refine g_no (b := true) hE rfl rfl rfl ?_; clear hE a; intro a hE
    refine g_no (b := true) hE rfl rfl rfl ?_; clear hE a; intro a hE
    refine s_pickt hE rfl rfl rfl ?_; clear hE a; intro a hE
    refine s_move hE rfl rfl ?_; clear hE a; intro a hE
    refine g_no (b := true) hE rfl rfl rfl ?_; clear hE a; intro a hE
    refine g_no (b := true) hE rfl rfl rfl ?_; clear hE a; intro a hE
    refine s_pickt hE rfl rfl rfl ?_; clear hE a; intro a hE
    refine s_move hE rfl rfl ?_; clear hE a; intro a hE
    refine g_no (b := true) hE rfl rfl rfl ?_; clear hE a; intro a hE
    refine g_no (b := true) hE rfl rfl rfl ?_; clear hE a; intro a hE
    refine s_pickt hE rfl rfl rfl ?_; clear hE a; intro a hE
    refine q_nil ?_
    replace hE : Env a 47 [(0, _), (1, _), (2, _), (3, _), (8, _), (9, _), (26, _)] := hE.sel [0, 1, 2, 3, 8, 9, 26] rfl
    refine hK3 _ _ ?_
    refine wp_cond_true (hE.eval rfl) ?_
    refine wp_seq_k (fun K4 hK4 => ?_)
    refine wp_plain [true, true] rfl rfl ?_
    refine s_assign hE rfl rfl ?_; clear hE a; intro a hE
    refine s_assign hE rfl rfl ?_; clear hE a; intro a hE
    refine q_nil ?_
    refine hK4 _ _ ?_
    refine wp_ret ?_
    refine q_then_r ?_
    refine f_ret2 hE rfl rfl rfl ?_
    exact ⟨rfl, hM⟩
  · replace hE := hE'; clear hE'
    replace hb15 := of_decide_eq_false hb15
    refine g_yes hE rfl rfl ?_
    refine s_move hE rfl rfl ?_; clear hE a; intro a hE
    refine g_yes hE rfl rfl ?_
    refine s_bin hE rfl rfl bin_gtr rfl ?_; clear hE a; intro a hE
    refine s_pickf hE rfl rfl rfl ?_; clear hE a; intro a hE
    refine s_move hE rfl rfl ?_; clear hE a; intro a hE
    refine hE.split 19 rfl (fun hb19 hE' => ?_) (fun hb19 hE' => ?_)
    · replace hE := hE'; clear hE'
      replace hb19 := of_decide_eq_true hb19
      refine g_no (b := true) hE rfl rfl rfl ?_; clear hE a; intro a hE
      refine g_no (b := true) hE rfl rfl rfl ?_; clear hE a; intro a hE
      refine s_pickt hE rfl rfl rfl ?_; clear hE a; intro a hE
      refine s_move hE rfl rfl ?_; clear hE a; intro a hE
      refine g_no (b := true) hE rfl rfl rfl ?_; clear hE a; intro a hE
      refine g_no (b := true) hE rfl rfl rfl ?_; clear hE a; intro a hE
      refine s_pickt hE rfl rfl rfl ?_; clear hE a; intro a hE
      refine q_nil ?_
      replace hE : Env a 47 [(0, _), (1, _), (2, _), (3, _), (8, _), (9, _), (26, _)] := hE.sel [0, 1, 2, 3, 8, 9, 26] rfl
      refine hK3 _ _ ?_
      refine wp_cond_true (hE.eval rfl) ?_
      refine wp_seq_k (fun K4 hK4 => ?_)
      refine wp_plain [true, true] rfl rfl ?_
      refine s_assign hE rfl rfl ?_; clear hE a; intro a hE
      refine s_assign hE rfl rfl ?_; clear hE a; intro a hE
      refine q_nil ?_
      refine hK4 _ _ ?_
      refine wp_ret ?_
      refine q_then_r ?_
      refine f_ret2 hE rfl rfl rfl ?_
      exact ⟨rfl, hM⟩
    · replace hE := hE'; clear hE'
      replace hb19 := of_decide_eq_false hb19
      refine g_yes hE rfl rfl ?_
      refine s_move hE rfl rfl ?_; clear hE a; intro a hE
      refine g_yes hE rfl rfl ?_
      refine s_bin hE rfl rfl bin_lss rfl ?_; clear hE a; intro a hE
      refine s_pickf hE rfl rfl rfl ?_; clear hE a; intro a hE
      refine s_move hE rfl rfl ?_; clear hE a; intro a hE
      refine hE.split 23 rfl (fun hb23 hE' => ?_) (fun hb23 hE' => ?_)
      · replace hE := hE'; clear hE'
        replace hb23 := of_decide_eq_true hb23
        refine g_no (b := true) hE rfl rfl rfl ?_; clear hE a; intro a hE
        refine g_no (b := true) hE rfl rfl rfl ?_; clear hE a; intro a hE
        refine s_pickt hE rfl rfl rfl ?_; clear hE a; intro a hE
        refine q_nil ?_
        replace hE : Env a 47 [(0, _), (1, _), (2, _), (3, _), (8, _), (9, _), (26, _)] := hE.sel [0, 1, 2, 3, 8, 9, 26] rfl
        refine hK3 _ _ ?_
        refine wp_cond_true (hE.eval rfl) ?_
        refine wp_seq_k (fun K4 hK4 => ?_)
        refine wp_plain [true, true] rfl rfl ?_
        refine s_assign hE rfl rfl ?_; clear hE a; intro a hE
        refine s_assign hE rfl rfl ?_; clear hE a; intro a hE
        refine q_nil ?_
        refine hK4 _ _ ?_
        refine wp_ret ?_
        refine q_then_r ?_
        refine f_ret2 hE rfl rfl rfl ?_
        exact ⟨rfl, hM⟩
      · replace hE := hE'; clear hE'
        replace hb23 := of_decide_eq_false hb23
        refine g_yes hE rfl rfl ?_
        refine s_move hE rfl rfl ?_; clear hE a; intro a hE
        refine g_yes hE rfl rfl ?_
        refine s_bin hE rfl rfl bin_gtr rfl ?_; clear hE a; intro a hE
        refine s_pickf hE rfl rfl rfl ?_; clear hE a; intro a hE
        refine q_nil ?_
        replace hE : Env a 47 [(0, _), (1, _), (2, _), (3, _), (8, _), (9, _), (26, _)] := hE.sel [0, 1, 2, 3, 8, 9, 26] rfl
        refine hK3 _ _ ?_
        replace hE := hE.cast 26 rfl (show _ = Value.bool true from (congrArg Value.bool (decide_eq_true (by omega))))
        refine wp_cond_true (hE.eval rfl) ?_
        refine wp_seq_k (fun K4 hK4 => ?_)
        refine wp_plain [true, true] rfl rfl ?_
        refine s_assign hE rfl rfl ?_; clear hE a; intro a hE
        refine s_assign hE rfl rfl ?_; clear hE a; intro a hE
        refine q_nil ?_
        refine hK4 _ _ ?_
        refine wp_ret ?_
        refine q_then_r ?_
        refine f_ret2 hE rfl rfl rfl ?_
        exact ⟨rfl, hM⟩
theorem large_c (v u : Value) (pass salt : List UInt8) (c cu : Nat) (z y : Int) (w : World) (hr : (rd v 1 pass.length c (bv pass)).holds w) (hu : (rd u 1 salt.length cu (bv salt)).holds w) : Calls Tryd.prog 20 #[.agg #[v, u, .int .i64 z, .int .i64 y]] w fun e w' => ∃ b, e = .returned (.bool b) ∧ (b = false → pass.length ≤ 2000 ∧ salt.length ≤ 2000) ∧ Mem w [] w' [] := by
  have hM := Mem.startR2 hr hu rfl rfl
  have h1 := rd_one hr
  have h2 := rd_one hu
  refine f_enter 33 Tryd.func20 rfl rfl rfl ?_
  intro a hE
  replace hE : Env a 33 [(0, _)] := hE
  refine wp_seq_k (fun K1 hK1 => ?_)
  refine wp_plain [false, true] rfl rfl ?_
  refine s_box (ss := [[v, u, .int .i64 z, .int .i64 y]]) [4] hE hM rfl rfl rfl rfl ?_; clear hE a; intro a b1 w1 hE hM'
  clear hM; have hM := hM'; clear hM'
  refine s_assign hE rfl rfl ?_; clear hE a; intro a hE
  refine q_nil ?_
  replace hE : Env a 33 [(1, _), (2, _)] := hE.sel [1, 2] rfl
  refine hK1 _ _ ?_
  refine wp_seq_k (fun K2 hK2 => ?_)
  refine wp_plain [true, true, true, true, true, true, true, true, true, true, true, true, true, true, true, true, true, true, true, true, true, true, true, true, true, true, true, true, true, true, true] rfl rfl ?_
  refine s_fieldAddr hE rfl fo34_0 rfl ?_; clear hE a; intro a hE
  refine s_loadIdx (j := 0) hE rfl rfl (hM.get 0 rfl) rfl one22 (by intro X h; cases h) rfl ?_; clear hE a; intro a hE
  refine s_len hE rfl Tryd.underlying22 (rd_slice (hM.get 1 rfl)) rfl ?_; clear hE a; intro a hE
  refine s_bin hE rfl rfl bin_gtr rfl ?_; clear hE a; intro a hE
  refine s_move hE rfl rfl ?_; clear hE a; intro a hE
  refine hE.split 7 rfl (fun hb7 hE' => ?_) (fun hb7 hE' => ?_)
  · replace hE := hE'; clear hE'
    replace hb7 := of_decide_eq_true hb7
    refine g_no (b := true) hE rfl rfl rfl ?_; clear hE a; intro a hE
    refine g_no (b := true) hE rfl rfl rfl ?_; clear hE a; intro a hE
    refine g_no (b := true) hE rfl rfl rfl ?_; clear hE a; intro a hE
    refine g_no (b := true) hE rfl rfl rfl ?_; clear hE a; intro a hE
    refine s_pickt hE rfl rfl rfl ?_; clear hE a; intro a hE
    refine s_move hE rfl rfl ?_; clear hE a; intro a hE
    refine g_no (b := true) hE rfl rfl rfl ?_; clear hE a; intro a hE
    refine g_no (b := true) hE rfl rfl rfl ?_; clear hE a; intro a hE
    refine g_no (b := true) hE rfl rfl rfl ?_; clear hE a; intro a hE
    refine g_no (b := true) hE rfl rfl rfl ?_; clear hE a; intro a hE
    refine g_und hE rfl rfl rfl ?_; clear hE a; intro a hE
    refine g_und hE rfl rfl rfl ?_; clear hE a; intro a hE
    refine g_und hE rfl rfl rfl ?_; clear hE a; intro a hE
    refine g_no (b := true) hE rfl rfl rfl ?_; clear hE a; intro a hE
    refine g_no (b := true) hE rfl rfl rfl ?_; clear hE a; intro a hE
    refine g_und hE rfl rfl rfl ?_; clear hE a; intro a hE
    refine g_und hE rfl rfl rfl ?_; clear hE a; intro a hE
    refine g_und hE rfl rfl rfl ?_; clear hE a; intro a hE
    refine g_no (b := true) hE rfl rfl rfl ?_; clear hE a; intro a hE
    refine g_no (b := true) hE rfl rfl rfl ?_; clear hE a; intro a hE
    refine g_und hE rfl rfl rfl ?_; clear hE a; intro a hE
    refine g_und hE rfl rfl rfl ?_; clear hE a; intro a hE
    refine g_und hE rfl rfl rfl ?_; clear hE a; intro a hE
    refine g_no (b := true) hE rfl rfl rfl ?_; clear hE a; intro a hE
    refine s_pickt hE rfl rfl rfl ?_; clear hE a; intro a hE
    refine s_assign hE rfl rfl ?_; clear hE a; intro a hE
    refine q_nil ?_
    replace hE : Env a 33 [(2, _)] := hE.sel [2] rfl
    refine hK2 _ _ ?_
    refine wp_ret ?_
    refine f_ret1 hE rfl rfl ?_
    exact ⟨_, rfl, fun h => ⟨(by first | omega | cases h), (by first | omega | cases h)⟩, hM.nil⟩
  · replace hE := hE'; clear hE'
    replace hb7 := of_decide_eq_false hb7
    refine g_yes hE rfl rfl ?_
    refine s_fieldAddr hE rfl fo34_1 rfl ?_; clear hE a; intro a hE
    refine g_yes hE rfl rfl ?_
    refine s_loadIdx (j := 1) hE rfl rfl (hM.get 0 rfl) rfl one22 (by intro X h; cases h) rfl ?_; clear hE a; intro a hE
    refine g_yes hE rfl rfl ?_
    refine s_len hE rfl Tryd.underlying22 (rd_slice (hM.get 2 rfl)) rfl ?_; clear hE a; intro a hE
    refine g_yes hE rfl rfl ?_
    refine s_bin hE rfl rfl bin_gtr rfl ?_; clear hE a; intro a hE
    refine s_pickf hE rfl rfl rfl ?_; clear hE a; intro a hE
    refine s_move hE rfl rfl ?_; clear hE a; intro a hE
    refine hE.split 13 rfl (fun hb13 hE' => ?_) (fun hb13 hE' => ?_)
    · replace hE := hE'; clear hE'
      replace hb13 := of_decide_eq_true hb13
      refine g_no (b := true) hE rfl rfl rfl ?_; clear hE a; intro a hE
      refine g_no (b := true) hE rfl rfl rfl ?_; clear hE a; intro a hE
      refine g_no (b := true) hE rfl rfl rfl ?_; clear hE a; intro a hE
      refine g_no (b := true) hE rfl rfl rfl ?_; clear hE a; intro a hE
      refine g_und hE rfl rfl rfl ?_; clear hE a; intro a hE
      refine g_und hE rfl rfl rfl ?_; clear hE a; intro a hE
      refine g_und hE rfl rfl rfl ?_; clear hE a; intro a hE
      refine g_no (b := true) hE rfl rfl rfl ?_; clear hE a; intro a hE
      refine g_no (b := true) hE rfl rfl rfl ?_; clear hE a; intro a hE
      refine g_und hE rfl rfl rfl ?_; clear hE a; intro a hE
      refine g_und hE rfl rfl rfl ?_; clear hE a; intro a hE
      refine g_und hE rfl rfl rfl ?_; clear hE a; intro a hE
      refine g_no (b := true) hE rfl rfl rfl ?_; clear hE a; intro a hE
      refine g_no (b := true) hE rfl rfl rfl ?_; clear hE a; intro a hE
      refine g_und hE rfl rfl rfl ?_; clear hE a; intro a hE
      refine g_und hE rfl rfl rfl ?_; clear hE a; intro a hE
      refine g_und hE rfl rfl rfl ?_; clear hE a; intro a hE
      refine g_no (b := true) hE rfl rfl rfl ?_; clear hE a; intro a hE
      refine s_pickt hE rfl rfl rfl ?_; clear hE a; intro a hE
      refine s_assign hE rfl rfl ?_; clear hE a; intro a hE
      refine q_nil ?_
      replace hE : Env a 33 [(2, _)] := hE.sel [2] rfl
      refine hK2 _ _ ?_
      refine wp_ret ?_
      refine f_ret1 hE rfl rfl ?_
      exact ⟨_, rfl, fun h => ⟨(by first | omega | cases h), (by first | omega | cases h)⟩, hM.nil⟩
    · replace hE := hE'; clear hE'
      replace hb13 := of_decide_eq_false hb13
      refine g_yes hE rfl rfl ?_
      refine s_fieldAddr hE rfl fo34_2 rfl ?_; clear hE a; intro a hE
      refine g_yes hE rfl rfl ?_
      refine s_loadIdx (j := 2) hE rfl rfl (hM.get 0 rfl) rfl one3 (by intro X h; cases h) rfl ?_; clear hE a; intro a hE
      refine g_yes hE rfl rfl ?_
      refine s_bin hE rfl rfl bin_gtr rfl ?_; clear hE a; intro a hE
      refine g_yes hE rfl rfl ?_
      refine s_move hE rfl rfl ?_; clear hE a; intro a hE
      refine hE.split 17 rfl (fun hb17 hE' => ?_) (fun hb17 hE' => ?_)
      · replace hE := hE'; clear hE'
        replace hb17 := of_decide_eq_true hb17
        refine g_yes hE rfl rfl ?_
        refine s_fieldAddr hE rfl fo34_2 rfl ?_; clear hE a; intro a hE
        refine g_yes hE rfl rfl ?_
        refine s_loadIdx (j := 2) hE rfl rfl (hM.get 0 rfl) rfl one3 (by intro X h; cases h) rfl ?_; clear hE a; intro a hE
        refine g_yes hE rfl rfl ?_
        refine s_bin hE rfl rfl bin_leq rfl ?_; clear hE a; intro a hE
        refine g_yes hE rfl rfl ?_
        refine s_pickt hE rfl rfl rfl ?_; clear hE a; intro a hE
        refine g_yes hE rfl rfl ?_
        refine s_move hE rfl rfl ?_; clear hE a; intro a hE
        refine hE.split 22 rfl (fun hb22 hE' => ?_) (fun hb22 hE' => ?_)
        · replace hE := hE'; clear hE'
          replace hb22 := of_decide_eq_true hb22
          refine g_yes hE rfl rfl ?_
          refine s_fieldAddr hE rfl fo34_3 rfl ?_; clear hE a; intro a hE
          refine g_yes hE rfl rfl ?_
          refine s_loadIdx (j := 3) hE rfl rfl (hM.get 0 rfl) rfl one3 (by intro X h; cases h) rfl ?_; clear hE a; intro a hE
          refine g_yes hE rfl rfl ?_
          refine s_bin hE rfl rfl bin_geq rfl ?_; clear hE a; intro a hE
          refine g_yes hE rfl rfl ?_
          refine s_pickt hE rfl rfl rfl ?_; clear hE a; intro a hE
          refine g_yes hE rfl rfl ?_
          refine s_move hE rfl rfl ?_; clear hE a; intro a hE
          refine hE.split 27 rfl (fun hb27 hE' => ?_) (fun hb27 hE' => ?_)
          · replace hE := hE'; clear hE'
            replace hb27 := of_decide_eq_true hb27
            refine g_yes hE rfl rfl ?_
            refine s_fieldAddr hE rfl fo34_3 rfl ?_; clear hE a; intro a hE
            refine g_yes hE rfl rfl ?_
            refine s_loadIdx (j := 3) hE rfl rfl (hM.get 0 rfl) rfl one3 (by intro X h; cases h) rfl ?_; clear hE a; intro a hE
            refine g_yes hE rfl rfl ?_
            refine s_bin hE rfl rfl bin_leq rfl ?_; clear hE a; intro a hE
            refine g_yes hE rfl rfl ?_
            refine s_pickt hE rfl rfl rfl ?_; clear hE a; intro a hE
            refine s_pickf hE rfl rfl rfl ?_; clear hE a; intro a hE
            refine s_assign hE rfl rfl ?_; clear hE a; intro a hE
            refine q_nil ?_
            replace hE : Env a 33 [(2, _)] := hE.sel [2] rfl
            refine hK2 _ _ ?_
            refine wp_ret ?_
            refine f_ret1 hE rfl rfl ?_
            exact ⟨_, rfl, fun h => ⟨(by first | omega | cases h), (by first | omega | cases h)⟩, hM.nil⟩
          · replace hE := hE'; clear hE'
            replace hb27 := of_decide_eq_false hb27
            refine g_no (b := false) hE rfl rfl rfl ?_; clear hE a; intro a hE
            refine g_no (b := false) hE rfl rfl rfl ?_; clear hE a; intro a hE
            refine g_no (b := false) hE rfl rfl rfl ?_; clear hE a; intro a hE
            refine g_yes hE rfl rfl ?_
            refine s_pickf hE rfl rfl rfl ?_; clear hE a; intro a hE
            refine s_pickf hE rfl rfl rfl ?_; clear hE a; intro a hE
            refine s_assign hE rfl rfl ?_; clear hE a; intro a hE
            refine q_nil ?_
            replace hE : Env a 33 [(2, _)] := hE.sel [2] rfl
            refine hK2 _ _ ?_
            refine wp_ret ?_
            refine f_ret1 hE rfl rfl ?_
            exact ⟨_, rfl, fun h => ⟨(by first | omega | cases h), (by first | omega | cases h)⟩, hM.nil⟩
        · replace hE := hE'; clear hE'
          replace hb22 := of_decide_eq_false hb22
          refine g_no (b := false) hE rfl rfl rfl ?_; clear hE a; intro a hE
          refine g_no (b := false) hE rfl rfl rfl ?_; clear hE a; intro a hE
          refine g_no (b := false) hE rfl rfl rfl ?_; clear hE a; intro a hE
          refine g_yes hE rfl rfl ?_
          refine s_pickf hE rfl rfl rfl ?_; clear hE a; intro a hE
          refine g_yes hE rfl rfl ?_
          refine s_move hE rfl rfl ?_; clear hE a; intro a hE
          refine g_no (b := false) hE rfl rfl rfl ?_; clear hE a; intro a hE
          refine g_no (b := false) hE rfl rfl rfl ?_; clear hE a; intro a hE
          refine g_no (b := false) hE rfl rfl rfl ?_; clear hE a; intro a hE
          refine g_yes hE rfl rfl ?_
          refine s_pickf hE rfl rfl rfl ?_; clear hE a; intro a hE
          refine s_pickf hE rfl rfl rfl ?_; clear hE a; intro a hE
          refine s_assign hE rfl rfl ?_; clear hE a; intro a hE
          refine q_nil ?_
          replace hE : Env a 33 [(2, _)] := hE.sel [2] rfl
          refine hK2 _ _ ?_
          refine wp_ret ?_
          refine f_ret1 hE rfl rfl ?_
          exact ⟨_, rfl, fun h => ⟨(by first | omega | cases h), (by first | omega | cases h)⟩, hM.nil⟩
      · replace hE := hE'; clear hE'
        replace hb17 := of_decide_eq_false hb17
        refine g_no (b := false) hE rfl rfl rfl ?_; clear hE a; intro a hE
        refine g_no (b := false) hE rfl rfl rfl ?_; clear hE a; intro a hE
        refine g_no (b := false) hE rfl rfl rfl ?_; clear hE a; intro a hE
        refine g_yes hE rfl rfl ?_
        refine s_pickf hE rfl rfl rfl ?_; clear hE a; intro a hE
        refine g_yes hE rfl rfl ?_
        refine s_move hE rfl rfl ?_; clear hE a; intro a hE
        refine g_no (b := false) hE rfl rfl rfl ?_; clear hE a; intro a hE
        refine g_no (b := false) hE rfl rfl rfl ?_; clear hE a; intro a hE
        refine g_no (b := false) hE rfl rfl rfl ?_; clear hE a; intro a hE
        refine g_yes hE rfl rfl ?_
        refine s_pickf hE rfl rfl rfl ?_; clear hE a; intro a hE
        refine g_yes hE rfl rfl ?_
        refine s_move hE rfl rfl ?_; clear hE a; intro a hE
        refine g_no (b := false) hE rfl rfl rfl ?_; clear hE a; intro a hE
        refine g_no (b := false) hE rfl rfl rfl ?_; clear hE a; intro a hE
        refine g_no (b := false) hE rfl rfl rfl ?_; clear hE a; intro a hE
        refine g_yes hE rfl rfl ?_
        refine s_pickf hE rfl rfl rfl ?_; clear hE a; intro a hE
        refine s_pickf hE rfl rfl rfl ?_; clear hE a; intro a hE
        refine s_assign hE rfl rfl ?_; clear hE a; intro a hE
        refine q_nil ?_
        replace hE : Env a 33 [(2, _)] := hE.sel [2] rfl
        refine hK2 _ _ ?_
        refine wp_ret ?_
        refine f_ret1 hE rfl rfl ?_
        exact ⟨_, rfl, fun h => ⟨(by first | omega | cases h), (by first | omega | cases h)⟩, hM.nil⟩
theorem keysOk_c (v u : Value) (pass salt : List UInt8) (c cu : Nat) (r size : Nat) (w : World) (hG : (glb 0).holds w) (hr : (rd v 1 pass.length c (bv pass)).holds w) (hu : (rd u 1 salt.length cu (bv salt)).holds w) (h1 : 1 ≤ r) (hrr : r ≤ 4096) (h3 : 1 ≤ size) (h4 : size ≤ 128) : Calls Tryd.prog 10 #[.agg #[v, u, .int .i64 (r : Int), .int .i64 (size : Int)]] w fun e w' => e = .returned (.bool true) ∧ Mem w [] w' [] := by
  have hM : Mem w [] w [rd v 1 pass.length c (bv pass), rd u 1 salt.length cu (bv salt), glb 0] := Mem.startR w (fun g hg => by
    simp only [List.mem_cons, List.not_mem_nil, or_false] at hg
    rcases hg with rfl | rfl | rfl
    · exact ⟨hr, rfl⟩
    · exact ⟨hu, rfl⟩
    · exact ⟨hG, rfl⟩)
  have ho1 := rd_one hr
  have ho2 := rd_one hu
  refine f_enter 103 Tryd.func10 rfl rfl rfl ?_
  intro a hE
  replace hE : Env a 103 [(0, _)] := hE
  refine wp_seq_k (fun K1 hK1 => ?_)
  refine wp_plain [false, true] rfl rfl ?_
  refine s_box (ss := [[v], [u], [.int .i64 ((r : Nat) : Int)], [.int .i64 ((size : Nat) : Int)]]) [1, 1, 1, 1] hE hM rfl rfl (by simp [*]) rfl ?_; clear hE a; intro a b1 w1 hE hM'
  clear hM; have hM := hM'; clear hM'
  refine s_assign hE rfl rfl ?_; clear hE a; intro a hE
  refine q_nil ?_
  replace hE : Env a 103 [(1, _), (2, _)] := hE.sel [1, 2] rfl
  refine hK1 _ _ ?_
  refine wp_seq_k (fun K2 hK2 => ?_)
  refine wp_seq_k (fun K3 hK3 => ?_)
  refine wp_plain [true, false] rfl rfl ?_
  refine s_loadN hE rfl (hM.get 0 rfl) row34 rfl (by intro X h; cases h) rfl ?_; clear hE a; intro a hE
  refine s_call hE rfl Tryd.call20 (large_c _ _ _ _ _ _ _ _ _ (hM.get 1 rfl) (hM.get 2 rfl)) rfl ?_
  rintro e w2 ⟨bl, rfl, hlarge, hN⟩
  refine ⟨_, rfl, trivial, ?_⟩; clear hE a; intro a hE
  replace hM : Mem _ _ w2 [_, _, _, _] := hM.call0 hN trivial; clear hN
  refine q_nil ?_
  replace hE : Env a 103 [(1, _), (2, _), (13, _)] := hE.sel [1, 2, 13] rfl
  refine hK3 _ _ ?_
  refine hE.split 13 rfl (fun hb13 hE' => ?_) (fun hb13 hE' => ?_)
  · replace hE := hE'; clear hE'
    refine wp_cond_true (hE.eval rfl) ?_
    refine wp_seq_k (fun K4 hK4 => ?_)
    refine wp_plain [false, true] rfl rfl ?_
    refine s_call hE rfl Tryd.call15 (awake_c _ (hM.get 3 rfl)) rfl ?_
    rintro e w3 ⟨rfl, hN⟩
    refine ⟨_, rfl, trivial, ?_⟩; clear hE a; intro a hE
    replace hM : Mem _ _ w3 [_, _, _, _] := hM.call0 hN trivial; clear hN
    refine s_assign hE rfl rfl ?_; clear hE a; intro a hE
    refine q_nil ?_
    replace hE : Env a 103 [(1, _), (2, _), (13, _)] := hE.sel [1, 2, 13] rfl
    refine hK4 _ _ ?_
    refine wp_ret ?_
    refine q_then_r ?_
    refine f_ret1 hE rfl rfl ?_
    exact ⟨rfl, hM.nil⟩
  · replace hE := hE'; clear hE'
    have hl := hlarge hb13
    refine wp_cond_false (hE.eval rfl) ?_
    refine wp_skip ?_
    refine hK2 _ _ ?_
    refine wp_seq_k (fun K4 hK4 => ?_)
    refine wp_treeM hM (by kernel_rfl) (fun b => b ≠ b1) (fun _ => True) (.re [(1, true), (2, true), (5, true), (6, true), (0, false), (3, false), (4, false), (7, false), (8, true), (9, true)] (.fl 4 (.or 0 (.re [(3, false), (4, false), (7, false), (8, true), (9, true)] (.fl 0 (.or 3 (.re [(4, false), (7, false), (8, true), (9, true)] (.leaf 1)) (.or 4 (.re [(3, false), (7, false), (8, true), (9, true)] (.leaf 1)) (.stop))))) (.or 4 (.re [(0, false), (3, false), (7, false), (8, true), (9, true)] (.leaf 2)) (.stop))))) [(1, true), (2, true), (5, true), (6, true), (0, false), (3, false), (4, false), (7, false), (8, true), (9, true)] [(0, [(3, 0), (7, 3), (8, 0), (9, 0)]), (3, [(7, 3), (8, 3), (9, 3)]), (4, [(7, 4), (8, 7), (9, 4)]), (7, [(8, 7), (9, 7)]), (1, [(2, 1), (3, 2), (7, 3), (8, 1), (9, 1)]), (2, [(3, 2), (7, 3), (8, 2), (9, 2)]), (5, [(6, 5), (7, 6), (8, 7), (9, 5)]), (6, [(7, 6), (8, 7), (9, 6)])] (by kernel_rfl) ?_
    intro w3 hM' hww3; clear hM; have hM := hM'; clear hM'
    refine o_re ?_
    refine o_fl rfl ?_
    refine s_fieldAddr hE rfl fo34_0 rfl ?_; clear hE a; intro a hE
    refine s_load1 hE rfl (hM.get 0 rfl) rfl one22 (by intro X h; cases h; simp) rfl ?_; clear hE a; intro a hE
    refine s_fieldAddr hE rfl fo34_1 rfl ?_; clear hE a; intro a hE
    refine s_load1 hE rfl (hM.get 0 rfl) rfl one22 (by intro X h; cases h; simp) rfl ?_; clear hE a; intro a hE
    refine q_nil (q_nx ?_)
    refine o_or rfl ?_ ?_
    · refine s_buildSlice (xs := []) ([]) hE hM sl22 rfl rfl rfl (by intro v hv; cases hv) rfl rfl rfl rfl ?_; clear hE a; intro a v15 w4 hE hM'
      clear hM; have hM := hM'; clear hM'
      replace hM := hM.ownEq (m' := ([] : List UInt8).length) (cs' := bv ([] : List UInt8)) rfl rfl
      refine q_nil (q_nx ?_)
      refine o_re ?_
      refine o_fl rfl ?_
      refine q_nil (q_nx ?_)
      refine o_or rfl ?_ ?_
      · refine s_append hE rfl rfl hM sl22 (Src.rd Tryd.underlying22 (hM.get 2 rfl) (bv_one _)) (len47 (by first | omega | (simp; omega))) (by first | omega | (simp; omega)) (by intro X h; cases h; intro b hb; exact fun e => ((apart_of_get hM.apart (i := 0) (j := 1) rfl rfl (by decide)).1 b hb).1 (by rw [e]; exact .head _)) rfl ?_; clear hE a; intro a v18 w5 hE hM'; clear hM; have hM := hM'; clear hM'
        replace hM := Mem.ownNil (q := pass) hM rfl (by first | rfl | (simp; done))
        refine q_nil (q_nx ?_)
        refine o_re ?_
        refine o_leaf rfl rfl ?_
        refine s_buildSlice (xs := []) ([]) hE hM sl22 rfl rfl rfl (by intro v hv; cases hv) rfl rfl rfl rfl ?_; clear hE a; intro a v19 w6 hE hM'
        clear hM; have hM := hM'; clear hM'
        replace hM := hM.ownEq (m' := ([] : List UInt8).length) (cs' := bv ([] : List UInt8)) rfl rfl
        refine q_nil (q_ph ?_)
        refine s_append hE rfl rfl hM sl22 (Src.rd Tryd.underlying22 (hM.get 4 rfl) (bv_one _)) (len47 (by first | omega | (simp; omega))) (by first | omega | (simp; omega)) (by intro X h; cases h; first | (simp; done) | simp [valBlocks]) rfl ?_; clear hE a; intro a v22 w7 hE hM'; clear hM; have hM := hM'; clear hM'
        replace hM := Mem.ownNil (q := salt) hM rfl (by first | rfl | (simp; done))
        refine s_assign hE rfl rfl ?_; clear hE a; intro a hE
        refine s_assign hE rfl rfl ?_; clear hE a; intro a hE
        refine q_nil ?_
        replace hE : Env a 103 [(1, _), (2, _), (3, _), (4, _), (13, _)] := hE.sel [1, 2, 3, 4, 13] rfl
        refine hK4 _ _ ?_
        refine wp_seq_k (fun K5 hK5 => ?_)
        refine wp_plain [true, true, true, true, true, true, false, true, true, true, true, true] rfl rfl ?_
        refine s_move hE rfl rfl ?_; clear hE a; intro a hE
        refine s_move hE rfl rfl ?_; clear hE a; intro a hE
        refine s_fieldAddr hE rfl fo34_2 rfl ?_; clear hE a; intro a hE
        refine s_load1 hE rfl (hM.get 2 rfl) rfl one3 (by intro X h; cases h) rfl ?_; clear hE a; intro a hE
        refine s_fieldAddr hE rfl fo34_3 rfl ?_; clear hE a; intro a hE
        refine s_load1 hE rfl (hM.get 2 rfl) rfl one3 (by intro X h; cases h) rfl ?_; clear hE a; intro a hE
        obtain ⟨cq1, hq1⟩ := own_rd (hM.get 1 rfl)
        obtain ⟨cq2, hq2⟩ := own_rd (hM.get 0 rfl)
        refine s_call hE rfl Tryd.call21 (keyw_c _ _ pass salt _ _ r size _ (hM.get 5 rfl) hq1 hq2 (by first | omega | assumption | (simp; done) | (simp; omega) | decide) (by first | omega | assumption | (simp; done) | (simp; omega) | decide) (by first | omega | assumption | (simp; done) | (simp; omega) | decide) (by first | omega | assumption | (simp; done) | (simp; omega) | decide) (by first | omega | assumption | (simp; done) | (simp; omega) | decide) (by first | omega | assumption | (simp; done) | (simp; omega) | decide)) rfl ?_
        rintro e w8 ⟨v30, rfl, hN⟩
        refine ⟨_, rfl, trivial, ?_⟩; clear hE a; intro a hE
        replace hM : Mem _ _ w8 [_, _, _, _, _, _, _] := hM.call0 hN ⟨rfl, trivial⟩; clear hN
        refine s_move hE rfl rfl ?_; clear hE a; intro a hE
        refine s_extract hE rfl rfl rfl ?_; clear hE a; intro a hE
        refine s_extract hE rfl rfl rfl ?_; clear hE a; intro a hE
        refine s_assign hE rfl rfl ?_; clear hE a; intro a hE
        refine s_assign hE rfl rfl ?_; clear hE a; intro a hE
        refine q_nil ?_
        replace hE : Env a 103 [(1, _), (2, _), (3, _), (4, _), (5, _), (6, _), (13, _)] := hE.sel [1, 2, 3, 4, 5, 6, 13] rfl
        refine hK5 _ _ ?_
        refine wp_seq_k (fun K6 hK6 => ?_)
        refine wp_plain [true, true, true, true, true, true, true, true, false, true, true, true, true, true] rfl rfl ?_
        refine s_fieldAddr hE rfl fo34_0 rfl ?_; clear hE a; intro a hE
        refine s_load1 hE rfl (hM.get 3 rfl) rfl one22 (by intro X h; cases h) rfl ?_; clear hE a; intro a hE
        refine s_fieldAddr hE rfl fo34_1 rfl ?_; clear hE a; intro a hE
        refine s_load1 hE rfl (hM.get 3 rfl) rfl one22 (by intro X h; cases h) rfl ?_; clear hE a; intro a hE
        refine s_fieldAddr hE rfl fo34_2 rfl ?_; clear hE a; intro a hE
        refine s_load1 hE rfl (hM.get 3 rfl) rfl one3 (by intro X h; cases h) rfl ?_; clear hE a; intro a hE
        refine s_fieldAddr hE rfl fo34_3 rfl ?_; clear hE a; intro a hE
        refine s_load1 hE rfl (hM.get 3 rfl) rfl one3 (by intro X h; cases h) rfl ?_; clear hE a; intro a hE
        refine s_call hE rfl Tryd.call30 (rkey_c _ _ pass salt _ _ r size _ (hM.get 4 rfl) (hM.get 5 rfl) (by first | omega | assumption | (simp; done) | (simp; omega) | decide) (by first | omega | assumption | (simp; done) | (simp; omega) | decide) (by first | omega | assumption | (simp; done) | (simp; omega) | decide) (by first | omega | assumption | (simp; done) | (simp; omega) | decide) (by first | omega | assumption | (simp; done) | (simp; omega) | decide) (by first | omega | assumption | (simp; done) | (simp; omega) | decide)) rfl ?_
        rintro e w9 ⟨v42, rfl, hN⟩
        refine ⟨_, rfl, trivial, ?_⟩; clear hE a; intro a hE
        replace hM : Mem _ _ w9 [_, _, _, _, _, _, _, _] := hM.call0 hN ⟨rfl, trivial⟩; clear hN
        refine s_move hE rfl rfl ?_; clear hE a; intro a hE
        refine s_extract hE rfl rfl rfl ?_; clear hE a; intro a hE
        refine s_extract hE rfl rfl rfl ?_; clear hE a; intro a hE
        refine s_assign hE rfl rfl ?_; clear hE a; intro a hE
        refine s_assign hE rfl rfl ?_; clear hE a; intro a hE
        refine q_nil ?_
        replace hE : Env a 103 [(1, _), (2, _), (3, _), (4, _), (5, _), (6, _), (7, _), (8, _), (13, _)] := hE.sel [1, 2, 3, 4, 5, 6, 7, 8, 13] rfl
        refine hK6 _ _ ?_
        refine wp_seq_k (fun K7 hK7 => ?_)
        refine wp_seq_k (fun K8 hK8 => ?_)
        refine wp_plain [true, true, true, true, true, true, true, true, true, true, true, true, true, true, true, true, true, true, true, true, true, true, true, true, true, true] rfl rfl ?_
        refine s_move hE rfl rfl ?_; clear hE a; intro a hE
        obtain ⟨cs46, hs46⟩ := ownW_rd (hM.get 1 rfl)
        refine s_toStr hE rfl Tryd.underlying22 Tryd.underlying5 Tryd.underlying9 hs46 (by intro X h; cases h) rfl ?_; clear hE a; intro a hE
        refine s_move hE rfl rfl ?_; clear hE a; intro a hE
        obtain ⟨cs48, hs48⟩ := own_rd (hM.get 0 rfl)
        refine s_toStr hE rfl Tryd.underlying22 Tryd.underlying5 Tryd.underlying9 hs48 (by intro X h; cases h) rfl ?_; clear hE a; intro a hE
        refine s_bin hE rfl rfl bins_str.2 rfl ?_; clear hE a; intro a hE
        refine s_move hE rfl rfl ?_; clear hE a; intro a hE
        replace hE := hE.cast 50 rfl (show _ = Value.bool false from (congrArg Value.bool (by first | exact decide_eq_false (by omega) | (rw [decide_eq_true (by omega)]; rfl) | (rw [decide_eq_false (by omega)]; rfl) | rfl | decide | (simp; done) | (simp; omega) | (simp [*]; done))))
        refine g_yes hE rfl rfl ?_
        refine s_move hE rfl rfl ?_; clear hE a; intro a hE
        refine g_yes hE rfl rfl ?_
        refine s_move hE rfl rfl ?_; clear hE a; intro a hE
        refine g_yes hE rfl rfl ?_
        refine s_bin hE rfl rfl bin_neq rfl ?_; clear hE a; intro a hE
        refine s_pickf hE rfl rfl rfl ?_; clear hE a; intro a hE
        refine s_move hE rfl rfl ?_; clear hE a; intro a hE
        replace hE := hE.cast 55 rfl (show _ = Value.bool false from (congrArg Value.bool (by first | exact decide_eq_false (by omega) | (rw [decide_eq_true (by omega)]; rfl) | (rw [decide_eq_false (by omega)]; rfl) | rfl | decide | (simp; done) | (simp; omega) | (simp [*]; done))))
        refine g_yes hE rfl rfl ?_
        refine s_move hE rfl rfl ?_; clear hE a; intro a hE
        refine g_yes hE rfl rfl ?_
        obtain ⟨cs57, hs57⟩ := own_rd (hM.get 3 rfl)
        refine s_toStr hE rfl Tryd.underlying22 Tryd.underlying5 Tryd.underlying9 hs57 (by intro X h; cases h) rfl ?_; clear hE a; intro a hE
        refine g_yes hE rfl rfl ?_
        refine s_fieldAddr hE rfl fo34_0 rfl ?_; clear hE a; intro a hE
        refine g_yes hE rfl rfl ?_
        refine s_load1 hE rfl (hM.get 4 rfl) rfl one22 (by intro X h; cases h) rfl ?_; clear hE a; intro a hE
        refine g_yes hE rfl rfl ?_
        refine s_toStr hE rfl Tryd.underlying22 Tryd.underlying5 Tryd.underlying9 (hM.get 5 rfl) (by intro X h; cases h) rfl ?_; clear hE a; intro a hE
        refine g_yes hE rfl rfl ?_
        refine s_bin hE rfl rfl bins_str.2 rfl ?_; clear hE a; intro a hE
        refine s_pickf hE rfl rfl rfl ?_; clear hE a; intro a hE
        refine s_move hE rfl rfl ?_; clear hE a; intro a hE
        replace hE := hE.cast 63 rfl (show _ = Value.bool false from (congrArg Value.bool (by first | exact decide_eq_false (by omega) | (rw [decide_eq_true (by omega)]; rfl) | (rw [decide_eq_false (by omega)]; rfl) | rfl | decide | (simp; done) | (simp; omega) | (simp [*]; done))))
        refine g_yes hE rfl rfl ?_
        refine s_move hE rfl rfl ?_; clear hE a; intro a hE
        refine g_yes hE rfl rfl ?_
        obtain ⟨cs65, hs65⟩ := own_rd (hM.get 2 rfl)
        refine s_toStr hE rfl Tryd.underlying22 Tryd.underlying5 Tryd.underlying9 hs65 (by intro X h; cases h) rfl ?_; clear hE a; intro a hE
        refine g_yes hE rfl rfl ?_
        refine s_fieldAddr hE rfl fo34_1 rfl ?_; clear hE a; intro a hE
        refine g_yes hE rfl rfl ?_
        refine s_load1 hE rfl (hM.get 4 rfl) rfl one22 (by intro X h; cases h) rfl ?_; clear hE a; intro a hE
        refine g_yes hE rfl rfl ?_
        refine s_toStr hE rfl Tryd.underlying22 Tryd.underlying5 Tryd.underlying9 (hM.get 6 rfl) (by intro X h; cases h) rfl ?_; clear hE a; intro a hE
        refine g_yes hE rfl rfl ?_
        refine s_bin hE rfl rfl bins_str.2 rfl ?_; clear hE a; intro a hE
        refine s_pickf hE rfl rfl rfl ?_; clear hE a; intro a hE
        refine q_nil ?_
        replace hE : Env a 103 [(1, _), (2, _), (3, _), (4, _), (5, _), (7, _), (13, _), (70, _)] := hE.sel [1, 2, 3, 4, 5, 7, 13, 70] rfl
        refine hK8 _ _ ?_
        replace hE := hE.cast 70 rfl (show _ = Value.bool false from (congrArg Value.bool (by first | exact decide_eq_false (by omega) | (rw [decide_eq_true (by omega)]; rfl) | (rw [decide_eq_false (by omega)]; rfl) | rfl | decide | (simp; done) | (simp; omega) | (simp [*]; done))))
        refine wp_cond_false (hE.eval rfl) ?_
        refine wp_skip ?_
        refine hK7 _ _ ?_
        refine wp_seq_k (fun K9 hK9 => ?_)
        refine wp_seq_k (fun K10 hK10 => ?_)
        refine wp_plain [true] rfl rfl ?_
        refine s_assign hE rfl rfl ?_; clear hE a; intro a hE
        refine q_nil ?_
        refine hK10 _ _ ?_
        refine wp_block ?_
        replace hM : Mem _ _ w9 [_, _, _, _, _, _, _, _] := hM.pick [1, 0, 2, 3, 4, 5, 6, 7] rfl
        replace hM := Mem.ownWB (p := keyW pass salt r size) (q := padI (keyW pass salt r size) 255 0) hM rfl
        replace hM : Mem _ _ w9 [_, _, _, _, _, _, _, _] := hM.pick [1, 0, 2, 3, 4, 5, 6, 7] rfl
        refine c_loop (fun (i : Nat) a w' => i ≤ size ∧ Env a 103 [(1, .pointer (some ⟨b1, 0, none⟩)), (2, .bool false), (3, v18), (4, v22), (5, v30), (7, v42), (9, .int .i64 ((i : Nat) : Int)), (13, .bool false), (70, .bool false)] ∧ Mem w [] w' [own v42 1 (keyW pass salt r size).length (bv (keyW pass salt r size)), ownW v30 1 (padI (keyW pass salt r size) 255 i).length (bv (padI (keyW pass salt r size) 255 i)), own v22 1 salt.length (bv salt), own v18 1 pass.length (bv pass), blk b1 [[v], [u], [.int .i64 ((r : Nat) : Int)], [.int .i64 ((size : Nat) : Int)]] [1, 1, 1, 1] 34, rd v 1 pass.length c (bv pass), rd u 1 salt.length cu (bv salt), glb 0]) (fun i => size - i) 0 ⟨Nat.zero_le _, hE.sel [1, 2, 3, 4, 5, 7, 9, 13, 70] rfl, hM⟩ ?_
        clear hE hM a; rintro i a w10 ⟨hi, hE, hM⟩
        refine wp_seq_k (fun K11 hK11 => ?_)
        refine wp_seq_k (fun K12 hK12 => ?_)
        refine wp_plain [true, true, true, true] rfl rfl ?_
        refine s_move hE rfl rfl ?_; clear hE a; intro a hE
        refine s_move hE rfl rfl ?_; clear hE a; intro a hE
        refine s_len hE rfl Tryd.underlying22 (ownW_slice (hM.get 1 rfl)) rfl ?_; clear hE a; intro a hE
        replace hE := hE.cast 73 rfl (show _ = Value.int .i64 ((size : Nat) : Int) from (congrArg (fun n : Nat => Value.int .i64 (n : Int)) ((padI_length ..).trans (by simp))))
        refine s_bin hE rfl rfl bin_lss rfl ?_; clear hE a; intro a hE
        refine q_nil ?_
        replace hE : Env a 103 [(1, _), (2, _), (3, _), (4, _), (5, _), (7, _), (9, _), (13, _), (70, _), (74, _)] := hE.sel [1, 2, 3, 4, 5, 7, 9, 13, 70, 74] rfl
        refine hK12 _ _ ?_
        refine hE.split 74 rfl (fun hb74 hE' => ?_) (fun hb74 hE' => ?_)
        · replace hE := hE'; clear hE'
          replace hb74 := of_decide_eq_true hb74
          replace hb74 : i < size := by omega
          refine wp_cond_true (hE.eval rfl) ?_
          refine wp_skip ?_
          refine hK11 _ _ ?_
          refine wp_seq_k (fun K13 hK13 => ?_)
          refine wp_block ?_
          refine wp_plain [true, true, true, true, true, true, true, true, false] rfl rfl ?_
          refine s_move hE rfl rfl ?_; clear hE a; intro a hE
          refine s_move hE rfl rfl ?_; clear hE a; intro a hE
          refine s_move hE rfl rfl ?_; clear hE a; intro a hE
          refine s_move hE rfl rfl ?_; clear hE a; intro a hE
          obtain ⟨cx81, hx81⟩ := ownW_rd (hM.get 1 rfl)
          refine s_indexRd (j := i) hE rfl hx81 rfl slt22 (by first | rfl | omega) (by have hl_ : (padI (keyW pass salt r size) 255 i).length = size := ((padI_length ..).trans (by simp)); first | omega | (simp; omega)) rfl ?_; clear hE a; intro a p81 hE hc81 hp81
          rw [bv_elem (by have hl_ : (padI (keyW pass salt r size) 255 i).length = size := ((padI_length ..).trans (by simp)); first | omega | (simp; omega))] at hc81
          refine s_loadAt1 hE rfl hc81 one5 (by intro X h; cases h) rfl ?_; clear hE a; intro a hE
          refine s_bin hE rfl rfl (bin_xor8 (x := (padI (keyW pass salt r size) 255 i).getD i 0) (y := 255)) rfl ?_; clear hE a; intro a hE
          refine s_indexW (j := i) hE rfl (hM.get 1 rfl) rfl slt22 (by first | rfl | omega) (by have hl_ : (padI (keyW pass salt r size) 255 i).length = size := ((padI_length ..).trans (by simp)); first | omega | (simp; omega)) rfl ?_; clear hE a; intro a hE hc84
          replace hM : Mem _ _ w10 [_, _, _, _, _, _, _, _] := hM.pick [1, 0, 2, 3, 4, 5, 6, 7] rfl
          refine s_storeW (vs := [_]) hE rfl rfl hM rfl sz5 rfl (one1 rfl) (by have hl_ : (padI (keyW pass salt r size) 255 i).length = size := ((padI_length ..).trans (by simp)); first | omega | (simp; omega)) (by have hl_ : (padI (keyW pass salt r size) 255 i).length = size := ((padI_length ..).trans (by simp)); first | omega | (simp; omega)) (by intro X h; cases h) ?_; intro w11 hM'; clear hM; have hM := hM'; clear hM'
          replace hM := Mem.ownWSet (p := padI (keyW pass salt r size) 255 i) (j := i) (b := ((padI (keyW pass salt r size) 255 i).getD i 0) ^^^ 255) hM (by have hl_ : (padI (keyW pass salt r size) 255 i).length = size := ((padI_length ..).trans (by simp)); first | omega | (simp; omega))
          refine q_nil ?_
          replace hE : Env a 103 [(1, _), (2, _), (3, _), (4, _), (5, _), (7, _), (9, _), (13, _), (70, _), (74, _)] := hE.sel [1, 2, 3, 4, 5, 7, 9, 13, 70, 74] rfl
          refine q_block_n ?_
          refine hK13 _ _ ?_
          refine wp_plain [true, true, true] rfl rfl ?_
          refine s_move hE rfl rfl ?_; clear hE a; intro a hE
          refine s_bin hE rfl rfl (show Bin _ _ _ _ _ (.int .i64 ((i + 1 : Nat) : Int)) from bin_add (by rw [wrap_i64 (by omega) (by omega)]; omega)) rfl ?_; clear hE a; intro a hE
          refine s_assign hE rfl rfl ?_; clear hE a; intro a hE
          refine q_nil ?_
          replace hE : Env a 103 [(1, _), (2, _), (3, _), (4, _), (5, _), (7, _), (9, _), (13, _), (70, _), (74, _)] := hE.sel [1, 2, 3, 4, 5, 7, 9, 13, 70, 74] rfl
          replace hE := hE.cast 9 rfl (show _ = Value.int .i64 (((i + 1) : Nat) : Int) from congrArg _ (by omega))
          replace hM := Mem.ownWB (p := (padI (keyW pass salt r size) 255 i).set i (((padI (keyW pass salt r size) 255 i).getD i 0) ^^^ 255)) (q := padI (keyW pass salt r size) 255 (i + 1)) hM (by rw [padI_get (by simp; omega)]; exact padI_set (by simp; omega))
          replace hM : Mem _ _ w11 [_, _, _, _, _, _, _, _] := hM.pick [0, 1, 2, 3, 4, 5, 6, 7] rfl
          replace hM : Mem _ _ w11 [_, _, _, _, _, _, _, _] := hM.pick [1, 0, 2, 3, 4, 5, 6, 7] rfl
          exact ⟨i + 1, ⟨by omega, hE.sel [1, 2, 3, 4, 5, 7, 9, 13, 70] rfl, hM⟩, by omega⟩
        · replace hE := hE'; clear hE'
          replace hb74 := of_decide_eq_false hb74
          obtain rfl : size = i := by omega
          refine wp_cond_false (hE.eval rfl) ?_
          refine wp_exit ?_
          refine q_then_e ?_
          refine q_then_e ?_
          refine q_block_x ?_
          refine hK9 _ _ ?_
          refine wp_seq_k (fun K13 hK13 => ?_)
          refine wp_plain [true, true, true, true, true, true, false, true, true, true, true, true] rfl rfl ?_
          refine s_move hE rfl rfl ?_; clear hE a; intro a hE
          refine s_move hE rfl rfl ?_; clear hE a; intro a hE
          refine s_fieldAddr hE rfl fo34_2 rfl ?_; clear hE a; intro a hE
          refine s_load1 hE rfl (hM.get 4 rfl) rfl one3 (by intro X h; cases h) rfl ?_; clear hE a; intro a hE
          refine s_fieldAddr hE rfl fo34_3 rfl ?_; clear hE a; intro a hE
          refine s_load1 hE rfl (hM.get 4 rfl) rfl one3 (by intro X h; cases h) rfl ?_; clear hE a; intro a hE
          obtain ⟨cq3, hq3⟩ := own_rd (hM.get 3 rfl)
          obtain ⟨cq4, hq4⟩ := own_rd (hM.get 2 rfl)
          refine s_call hE rfl Tryd.call21 (keyw_c _ _ pass salt _ _ r size _ (hM.get 7 rfl) hq3 hq4 (by first | omega | assumption | (simp; done) | (simp; omega) | decide) (by first | omega | assumption | (simp; done) | (simp; omega) | decide) (by first | omega | assumption | (simp; done) | (simp; omega) | decide) (by first | omega | assumption | (simp; done) | (simp; omega) | decide) (by first | omega | assumption | (simp; done) | (simp; omega) | decide) (by first | omega | assumption | (simp; done) | (simp; omega) | decide)) rfl ?_
          rintro e w11 ⟨v92, rfl, hN⟩
          refine ⟨_, rfl, trivial, ?_⟩; clear hE a; intro a hE
          replace hM : Mem _ _ w11 [_, _, _, _, _, _, _, _, _] := hM.call0 hN ⟨rfl, trivial⟩; clear hN
          refine s_move hE rfl rfl ?_; clear hE a; intro a hE
          refine s_extract hE rfl rfl rfl ?_; clear hE a; intro a hE
          refine s_extract hE rfl rfl rfl ?_; clear hE a; intro a hE
          refine s_assign hE rfl rfl ?_; clear hE a; intro a hE
          refine s_assign hE rfl rfl ?_; clear hE a; intro a hE
          refine q_nil ?_
          replace hE : Env a 103 [(1, _), (2, _), (3, _), (4, _), (5, _), (7, _), (9, _), (10, _), (13, _), (70, _), (74, _)] := hE.sel [1, 2, 3, 4, 5, 7, 9, 10, 13, 70, 74] rfl
          refine hK13 _ _ ?_
          refine wp_seq_k (fun K14 hK14 => ?_)
          refine wp_plain [true, true, true, true, true, true, false, true, true] rfl rfl ?_
          refine s_move hE rfl rfl ?_; clear hE a; intro a hE
          obtain ⟨cs96, hs96⟩ := ownW_rd (hM.get 0 rfl)
          refine s_toStr hE rfl Tryd.underlying22 Tryd.underlying5 Tryd.underlying9 hs96 (by intro X h; cases h) rfl ?_; clear hE a; intro a hE
          refine s_move hE rfl rfl ?_; clear hE a; intro a hE
          obtain ⟨cs98, hs98⟩ := own_rd (hM.get 1 rfl)
          refine s_toStr hE rfl Tryd.underlying22 Tryd.underlying5 Tryd.underlying9 hs98 (by intro X h; cases h) rfl ?_; clear hE a; intro a hE
          refine s_bin hE rfl rfl bins_str.1 rfl ?_; clear hE a; intro a hE
          refine s_move hE rfl rfl ?_; clear hE a; intro a hE
          replace hE := hE.cast 100 rfl (show _ = Value.bool true from (congrArg Value.bool (by first | exact decide_eq_true (by omega) | (rw [decide_eq_true (by omega)]; rfl) | (rw [decide_eq_false (by omega)]; rfl) | rfl | decide | (simp; done) | (simp; omega) | (simp [*]; done))))
          refine g_yes hE rfl rfl ?_
          refine s_call hE rfl Tryd.call15 (awake_c _ (hM.get 8 rfl)) rfl ?_
          rintro e w12 ⟨rfl, hN⟩
          refine ⟨_, rfl, trivial, ?_⟩; clear hE a; intro a hE
          replace hM : Mem _ _ w12 [_, _, _, _, _, _, _, _, _] := hM.call0 hN trivial; clear hN
          refine s_pickt hE rfl rfl rfl ?_; clear hE a; intro a hE
          refine s_assign hE rfl rfl ?_; clear hE a; intro a hE
          refine q_nil ?_
          replace hE : Env a 103 [(1, _), (2, _), (3, _), (4, _), (5, _), (7, _), (9, _), (13, _), (70, _), (74, _)] := hE.sel [1, 2, 3, 4, 5, 7, 9, 13, 70, 74] rfl
          refine hK14 _ _ ?_
          refine wp_ret ?_
          refine f_ret1 hE rfl rfl ?_
          exact ⟨rfl, hM.nil⟩
      refine o_or rfl ?_ ?_
      · refine s_buildSlice (xs := []) ([]) hE hM sl22 rfl rfl rfl (by intro v hv; cases hv) rfl rfl rfl rfl ?_; clear hE a; intro a v19 w5 hE hM'
        clear hM; have hM := hM'; clear hM'
        replace hM := hM.ownEq (m' := ([] : List UInt8).length) (cs' := bv ([] : List UInt8)) rfl rfl
        refine q_nil (q_nx ?_)
        refine o_re ?_
        refine o_leaf rfl rfl ?_
        replace hM : Mem _ _ w5 [_, _, _, _, _, _] := hM.pick [1, 0, 2, 3, 4, 5] rfl
        refine s_append hE rfl rfl hM sl22 (Src.rd Tryd.underlying22 (hM.get 3 rfl) (bv_one _)) (len47 (by first | omega | (simp; omega))) (by first | omega | (simp; omega)) (by intro X h; cases h; intro b hb; exact fun e => ((apart_of_get hM.apart (i := 0) (j := 2) rfl rfl (by decide)).1 b hb).1 (by rw [e]; exact .head _)) rfl ?_; clear hE a; intro a v18 w6 hE hM'; clear hM; have hM := hM'; clear hM'
        replace hM := Mem.ownNil (q := pass) hM rfl (by first | rfl | (simp; done))
        refine q_nil (q_ph ?_)
        replace hM : Mem _ _ w6 [_, _, _, _, _, _] := hM.pick [1, 0, 2, 3, 4, 5] rfl
        refine s_append hE rfl rfl hM sl22 (Src.rd Tryd.underlying22 (hM.get 4 rfl) (bv_one _)) (len47 (by first | omega | (simp; omega))) (by first | omega | (simp; omega)) (by intro X h; cases h; first | (simp; done) | simp [valBlocks]) rfl ?_; clear hE a; intro a v22 w7 hE hM'; clear hM; have hM := hM'; clear hM'
        replace hM := Mem.ownNil (q := salt) hM rfl (by first | rfl | (simp; done))
        refine s_assign hE rfl rfl ?_; clear hE a; intro a hE
        refine s_assign hE rfl rfl ?_; clear hE a; intro a hE
        refine q_nil ?_
        replace hE : Env a 103 [(1, _), (2, _), (3, _), (4, _), (13, _)] := hE.sel [1, 2, 3, 4, 13] rfl
        refine hK4 _ _ ?_
        refine wp_seq_k (fun K5 hK5 => ?_)
        refine wp_plain [true, true, true, true, true, true, false, true, true, true, true, true] rfl rfl ?_
        refine s_move hE rfl rfl ?_; clear hE a; intro a hE
        refine s_move hE rfl rfl ?_; clear hE a; intro a hE
        refine s_fieldAddr hE rfl fo34_2 rfl ?_; clear hE a; intro a hE
        refine s_load1 hE rfl (hM.get 2 rfl) rfl one3 (by intro X h; cases h) rfl ?_; clear hE a; intro a hE
        refine s_fieldAddr hE rfl fo34_3 rfl ?_; clear hE a; intro a hE
        refine s_load1 hE rfl (hM.get 2 rfl) rfl one3 (by intro X h; cases h) rfl ?_; clear hE a; intro a hE
        obtain ⟨cq5, hq5⟩ := own_rd (hM.get 1 rfl)
        obtain ⟨cq6, hq6⟩ := own_rd (hM.get 0 rfl)
        refine s_call hE rfl Tryd.call21 (keyw_c _ _ pass salt _ _ r size _ (hM.get 5 rfl) hq5 hq6 (by first | omega | assumption | (simp; done) | (simp; omega) | decide) (by first | omega | assumption | (simp; done) | (simp; omega) | decide) (by first | omega | assumption | (simp; done) | (simp; omega) | decide) (by first | omega | assumption | (simp; done) | (simp; omega) | decide) (by first | omega | assumption | (simp; done) | (simp; omega) | decide) (by first | omega | assumption | (simp; done) | (simp; omega) | decide)) rfl ?_
        rintro e w8 ⟨v30, rfl, hN⟩
        refine ⟨_, rfl, trivial, ?_⟩; clear hE a; intro a hE
        replace hM : Mem _ _ w8 [_, _, _, _, _, _, _] := hM.call0 hN ⟨rfl, trivial⟩; clear hN
        refine s_move hE rfl rfl ?_; clear hE a; intro a hE
        refine s_extract hE rfl rfl rfl ?_; clear hE a; intro a hE
        refine s_extract hE rfl rfl rfl ?_; clear hE a; intro a hE
        refine s_assign hE rfl rfl ?_; clear hE a; intro a hE
        refine s_assign hE rfl rfl ?_; clear hE a; intro a hE
        refine q_nil ?_
        replace hE : Env a 103 [(1, _), (2, _), (3, _), (4, _), (5, _), (6, _), (13, _)] := hE.sel [1, 2, 3, 4, 5, 6, 13] rfl
        refine hK5 _ _ ?_
        refine wp_seq_k (fun K6 hK6 => ?_)
        refine wp_plain [true, true, true, true, true, true, true, true, false, true, true, true, true, true] rfl rfl ?_
        refine s_fieldAddr hE rfl fo34_0 rfl ?_; clear hE a; intro a hE
        refine s_load1 hE rfl (hM.get 3 rfl) rfl one22 (by intro X h; cases h) rfl ?_; clear hE a; intro a hE
        refine s_fieldAddr hE rfl fo34_1 rfl ?_; clear hE a; intro a hE
        refine s_load1 hE rfl (hM.get 3 rfl) rfl one22 (by intro X h; cases h) rfl ?_; clear hE a; intro a hE
        refine s_fieldAddr hE rfl fo34_2 rfl ?_; clear hE a; intro a hE
        refine s_load1 hE rfl (hM.get 3 rfl) rfl one3 (by intro X h; cases h) rfl ?_; clear hE a; intro a hE
        refine s_fieldAddr hE rfl fo34_3 rfl ?_; clear hE a; intro a hE
        refine s_load1 hE rfl (hM.get 3 rfl) rfl one3 (by intro X h; cases h) rfl ?_; clear hE a; intro a hE
        refine s_call hE rfl Tryd.call30 (rkey_c _ _ pass salt _ _ r size _ (hM.get 4 rfl) (hM.get 5 rfl) (by first | omega | assumption | (simp; done) | (simp; omega) | decide) (by first | omega | assumption | (simp; done) | (simp; omega) | decide) (by first | omega | assumption | (simp; done) | (simp; omega) | decide) (by first | omega | assumption | (simp; done) | (simp; omega) | decide) (by first | omega | assumption | (simp; done) | (simp; omega) | decide) (by first | omega | assumption | (simp; done) | (simp; omega) | decide)) rfl ?_
        rintro e w9 ⟨v42, rfl, hN⟩
        refine ⟨_, rfl, trivial, ?_⟩; clear hE a; intro a hE
        replace hM : Mem _ _ w9 [_, _, _, _, _, _, _, _] := hM.call0 hN ⟨rfl, trivial⟩; clear hN
        refine s_move hE rfl rfl ?_; clear hE a; intro a hE
        refine s_extract hE rfl rfl rfl ?_; clear hE a; intro a hE
        refine s_extract hE rfl rfl rfl ?_; clear hE a; intro a hE
        refine s_assign hE rfl rfl ?_; clear hE a; intro a hE
        refine s_assign hE rfl rfl ?_; clear hE a; intro a hE
        refine q_nil ?_
        replace hE : Env a 103 [(1, _), (2, _), (3, _), (4, _), (5, _), (6, _), (7, _), (8, _), (13, _)] := hE.sel [1, 2, 3, 4, 5, 6, 7, 8, 13] rfl
        refine hK6 _ _ ?_
        refine wp_seq_k (fun K7 hK7 => ?_)
        refine wp_seq_k (fun K8 hK8 => ?_)
        refine wp_plain [true, true, true, true, true, true, true, true, true, true, true, true, true, true, true, true, true, true, true, true, true, true, true, true, true, true] rfl rfl ?_
        refine s_move hE rfl rfl ?_; clear hE a; intro a hE
        obtain ⟨cs46, hs46⟩ := ownW_rd (hM.get 1 rfl)
        refine s_toStr hE rfl Tryd.underlying22 Tryd.underlying5 Tryd.underlying9 hs46 (by intro X h; cases h) rfl ?_; clear hE a; intro a hE
        refine s_move hE rfl rfl ?_; clear hE a; intro a hE
        obtain ⟨cs48, hs48⟩ := own_rd (hM.get 0 rfl)
        refine s_toStr hE rfl Tryd.underlying22 Tryd.underlying5 Tryd.underlying9 hs48 (by intro X h; cases h) rfl ?_; clear hE a; intro a hE
        refine s_bin hE rfl rfl bins_str.2 rfl ?_; clear hE a; intro a hE
        refine s_move hE rfl rfl ?_; clear hE a; intro a hE
        replace hE := hE.cast 50 rfl (show _ = Value.bool false from (congrArg Value.bool (by first | exact decide_eq_false (by omega) | (rw [decide_eq_true (by omega)]; rfl) | (rw [decide_eq_false (by omega)]; rfl) | rfl | decide | (simp; done) | (simp; omega) | (simp [*]; done))))
        refine g_yes hE rfl rfl ?_
        refine s_move hE rfl rfl ?_; clear hE a; intro a hE
        refine g_yes hE rfl rfl ?_
        refine s_move hE rfl rfl ?_; clear hE a; intro a hE
        refine g_yes hE rfl rfl ?_
        refine s_bin hE rfl rfl bin_neq rfl ?_; clear hE a; intro a hE
        refine s_pickf hE rfl rfl rfl ?_; clear hE a; intro a hE
        refine s_move hE rfl rfl ?_; clear hE a; intro a hE
        replace hE := hE.cast 55 rfl (show _ = Value.bool false from (congrArg Value.bool (by first | exact decide_eq_false (by omega) | (rw [decide_eq_true (by omega)]; rfl) | (rw [decide_eq_false (by omega)]; rfl) | rfl | decide | (simp; done) | (simp; omega) | (simp [*]; done))))
        refine g_yes hE rfl rfl ?_
        refine s_move hE rfl rfl ?_; clear hE a; intro a hE
        refine g_yes hE rfl rfl ?_
        obtain ⟨cs57, hs57⟩ := own_rd (hM.get 3 rfl)
        refine s_toStr hE rfl Tryd.underlying22 Tryd.underlying5 Tryd.underlying9 hs57 (by intro X h; cases h) rfl ?_; clear hE a; intro a hE
        refine g_yes hE rfl rfl ?_
        refine s_fieldAddr hE rfl fo34_0 rfl ?_; clear hE a; intro a hE
        refine g_yes hE rfl rfl ?_
        refine s_load1 hE rfl (hM.get 4 rfl) rfl one22 (by intro X h; cases h) rfl ?_; clear hE a; intro a hE
        refine g_yes hE rfl rfl ?_
        refine s_toStr hE rfl Tryd.underlying22 Tryd.underlying5 Tryd.underlying9 (hM.get 5 rfl) (by intro X h; cases h) rfl ?_; clear hE a; intro a hE
        refine g_yes hE rfl rfl ?_
        refine s_bin hE rfl rfl bins_str.2 rfl ?_; clear hE a; intro a hE
        refine s_pickf hE rfl rfl rfl ?_; clear hE a; intro a hE
        refine s_move hE rfl rfl ?_; clear hE a; intro a hE
        replace hE := hE.cast 63 rfl (show _ = Value.bool false from (congrArg Value.bool (by first | exact decide_eq_false (by omega) | (rw [decide_eq_true (by omega)]; rfl) | (rw [decide_eq_false (by omega)]; rfl) | rfl | decide | (simp; done) | (simp; omega) | (simp [*]; done))))
        refine g_yes hE rfl rfl ?_
        refine s_move hE rfl rfl ?_; clear hE a; intro a hE
        refine g_yes hE rfl rfl ?_
        obtain ⟨cs65, hs65⟩ := own_rd (hM.get 2 rfl)
        refine s_toStr hE rfl Tryd.underlying22 Tryd.underlying5 Tryd.underlying9 hs65 (by intro X h; cases h) rfl ?_; clear hE a; intro a hE
        refine g_yes hE rfl rfl ?_
        refine s_fieldAddr hE rfl fo34_1 rfl ?_; clear hE a; intro a hE
        refine g_yes hE rfl rfl ?_
        refine s_load1 hE rfl (hM.get 4 rfl) rfl one22 (by intro X h; cases h) rfl ?_; clear hE a; intro a hE
        refine g_yes hE rfl rfl ?_
        refine s_toStr hE rfl Tryd.underlying22 Tryd.underlying5 Tryd.underlying9 (hM.get 6 rfl) (by intro X h; cases h) rfl ?_; clear hE a; intro a hE
        refine g_yes hE rfl rfl ?_
        refine s_bin hE rfl rfl bins_str.2 rfl ?_; clear hE a; intro a hE
        refine s_pickf hE rfl rfl rfl ?_; clear hE a; intro a hE
        refine q_nil ?_
        replace hE : Env a 103 [(1, _), (2, _), (3, _), (4, _), (5, _), (7, _), (13, _), (70, _)] := hE.sel [1, 2, 3, 4, 5, 7, 13, 70] rfl
        refine hK8 _ _ ?_
        replace hE := hE.cast 70 rfl (show _ = Value.bool false from (congrArg Value.bool (by first | exact decide_eq_false (by omega) | (rw [decide_eq_true (by omega)]; rfl) | (rw [decide_eq_false (by omega)]; rfl) | rfl | decide | (simp; done) | (simp; omega) | (simp [*]; done))))
        refine wp_cond_false (hE.eval rfl) ?_
        refine wp_skip ?_
        refine hK7 _ _ ?_
        refine wp_seq_k (fun K9 hK9 => ?_)
        refine wp_seq_k (fun K10 hK10 => ?_)
        refine wp_plain [true] rfl rfl ?_
        refine s_assign hE rfl rfl ?_; clear hE a; intro a hE
        refine q_nil ?_
        refine hK10 _ _ ?_
        refine wp_block ?_
        replace hM : Mem _ _ w9 [_, _, _, _, _, _, _, _] := hM.pick [1, 0, 2, 3, 4, 5, 6, 7] rfl
        replace hM := Mem.ownWB (p := keyW pass salt r size) (q := padI (keyW pass salt r size) 255 0) hM rfl
        replace hM : Mem _ _ w9 [_, _, _, _, _, _, _, _] := hM.pick [1, 0, 2, 3, 4, 5, 6, 7] rfl
        refine c_loop (fun (i : Nat) a w' => i ≤ size ∧ Env a 103 [(1, .pointer (some ⟨b1, 0, none⟩)), (2, .bool false), (3, v18), (4, v22), (5, v30), (7, v42), (9, .int .i64 ((i : Nat) : Int)), (13, .bool false), (70, .bool false)] ∧ Mem w [] w' [own v42 1 (keyW pass salt r size).length (bv (keyW pass salt r size)), ownW v30 1 (padI (keyW pass salt r size) 255 i).length (bv (padI (keyW pass salt r size) 255 i)), own v22 1 salt.length (bv salt), own v18 1 pass.length (bv pass), blk b1 [[v], [u], [.int .i64 ((r : Nat) : Int)], [.int .i64 ((size : Nat) : Int)]] [1, 1, 1, 1] 34, rd v 1 pass.length c (bv pass), rd u 1 salt.length cu (bv salt), glb 0]) (fun i => size - i) 0 ⟨Nat.zero_le _, hE.sel [1, 2, 3, 4, 5, 7, 9, 13, 70] rfl, hM⟩ ?_
        clear hE hM a; rintro i a w10 ⟨hi, hE, hM⟩
        refine wp_seq_k (fun K11 hK11 => ?_)
        refine wp_seq_k (fun K12 hK12 => ?_)
        refine wp_plain [true, true, true, true] rfl rfl ?_
        refine s_move hE rfl rfl ?_; clear hE a; intro a hE
        refine s_move hE rfl rfl ?_; clear hE a; intro a hE
        refine s_len hE rfl Tryd.underlying22 (ownW_slice (hM.get 1 rfl)) rfl ?_; clear hE a; intro a hE
        replace hE := hE.cast 73 rfl (show _ = Value.int .i64 ((size : Nat) : Int) from (congrArg (fun n : Nat => Value.int .i64 (n : Int)) ((padI_length ..).trans (by simp))))
        refine s_bin hE rfl rfl bin_lss rfl ?_; clear hE a; intro a hE
        refine q_nil ?_
        replace hE : Env a 103 [(1, _), (2, _), (3, _), (4, _), (5, _), (7, _), (9, _), (13, _), (70, _), (74, _)] := hE.sel [1, 2, 3, 4, 5, 7, 9, 13, 70, 74] rfl
        refine hK12 _ _ ?_
        refine hE.split 74 rfl (fun hb74 hE' => ?_) (fun hb74 hE' => ?_)
        · replace hE := hE'; clear hE'
          replace hb74 := of_decide_eq_true hb74
          replace hb74 : i < size := by omega
          refine wp_cond_true (hE.eval rfl) ?_
          refine wp_skip ?_
          refine hK11 _ _ ?_
          refine wp_seq_k (fun K13 hK13 => ?_)
          refine wp_block ?_
          refine wp_plain [true, true, true, true, true, true, true, true, false] rfl rfl ?_
          refine s_move hE rfl rfl ?_; clear hE a; intro a hE
          refine s_move hE rfl rfl ?_; clear hE a; intro a hE
          refine s_move hE rfl rfl ?_; clear hE a; intro a hE
          refine s_move hE rfl rfl ?_; clear hE a; intro a hE
          obtain ⟨cx81, hx81⟩ := ownW_rd (hM.get 1 rfl)
          refine s_indexRd (j := i) hE rfl hx81 rfl slt22 (by first | rfl | omega) (by have hl_ : (padI (keyW pass salt r size) 255 i).length = size := ((padI_length ..).trans (by simp)); first | omega | (simp; omega)) rfl ?_; clear hE a; intro a p81 hE hc81 hp81
          rw [bv_elem (by have hl_ : (padI (keyW pass salt r size) 255 i).length = size := ((padI_length ..).trans (by simp)); first | omega | (simp; omega))] at hc81
          refine s_loadAt1 hE rfl hc81 one5 (by intro X h; cases h) rfl ?_; clear hE a; intro a hE
          refine s_bin hE rfl rfl (bin_xor8 (x := (padI (keyW pass salt r size) 255 i).getD i 0) (y := 255)) rfl ?_; clear hE a; intro a hE
          refine s_indexW (j := i) hE rfl (hM.get 1 rfl) rfl slt22 (by first | rfl | omega) (by have hl_ : (padI (keyW pass salt r size) 255 i).length = size := ((padI_length ..).trans (by simp)); first | omega | (simp; omega)) rfl ?_; clear hE a; intro a hE hc84
          replace hM : Mem _ _ w10 [_, _, _, _, _, _, _, _] := hM.pick [1, 0, 2, 3, 4, 5, 6, 7] rfl
          refine s_storeW (vs := [_]) hE rfl rfl hM rfl sz5 rfl (one1 rfl) (by have hl_ : (padI (keyW pass salt r size) 255 i).length = size := ((padI_length ..).trans (by simp)); first | omega | (simp; omega)) (by have hl_ : (padI (keyW pass salt r size) 255 i).length = size := ((padI_length ..).trans (by simp)); first | omega | (simp; omega)) (by intro X h; cases h) ?_; intro w11 hM'; clear hM; have hM := hM'; clear hM'
          replace hM := Mem.ownWSet (p := padI (keyW pass salt r size) 255 i) (j := i) (b := ((padI (keyW pass salt r size) 255 i).getD i 0) ^^^ 255) hM (by have hl_ : (padI (keyW pass salt r size) 255 i).length = size := ((padI_length ..).trans (by simp)); first | omega | (simp; omega))
          refine q_nil ?_
          replace hE : Env a 103 [(1, _), (2, _), (3, _), (4, _), (5, _), (7, _), (9, _), (13, _), (70, _), (74, _)] := hE.sel [1, 2, 3, 4, 5, 7, 9, 13, 70, 74] rfl
          refine q_block_n ?_
          refine hK13 _ _ ?_
          refine wp_plain [true, true, true] rfl rfl ?_
          refine s_move hE rfl rfl ?_; clear hE a; intro a hE
          refine s_bin hE rfl rfl (show Bin _ _ _ _ _ (.int .i64 ((i + 1 : Nat) : Int)) from bin_add (by rw [wrap_i64 (by omega) (by omega)]; omega)) rfl ?_; clear hE a; intro a hE
          refine s_assign hE rfl rfl ?_; clear hE a; intro a hE
          refine q_nil ?_
          replace hE : Env a 103 [(1, _), (2, _), (3, _), (4, _), (5, _), (7, _), (9, _), (13, _), (70, _), (74, _)] := hE.sel [1, 2, 3, 4, 5, 7, 9, 13, 70, 74] rfl
          replace hE := hE.cast 9 rfl (show _ = Value.int .i64 (((i + 1) : Nat) : Int) from congrArg _ (by omega))
          replace hM := Mem.ownWB (p := (padI (keyW pass salt r size) 255 i).set i (((padI (keyW pass salt r size) 255 i).getD i 0) ^^^ 255)) (q := padI (keyW pass salt r size) 255 (i + 1)) hM (by rw [padI_get (by simp; omega)]; exact padI_set (by simp; omega))
          replace hM : Mem _ _ w11 [_, _, _, _, _, _, _, _] := hM.pick [0, 1, 2, 3, 4, 5, 6, 7] rfl
          replace hM : Mem _ _ w11 [_, _, _, _, _, _, _, _] := hM.pick [1, 0, 2, 3, 4, 5, 6, 7] rfl
          exact ⟨i + 1, ⟨by omega, hE.sel [1, 2, 3, 4, 5, 7, 9, 13, 70] rfl, hM⟩, by omega⟩
        · replace hE := hE'; clear hE'
          replace hb74 := of_decide_eq_false hb74
          obtain rfl : size = i := by omega
          refine wp_cond_false (hE.eval rfl) ?_
          refine wp_exit ?_
          refine q_then_e ?_
          refine q_then_e ?_
          refine q_block_x ?_
          refine hK9 _ _ ?_
          refine wp_seq_k (fun K13 hK13 => ?_)
          refine wp_plain [true, true, true, true, true, true, false, true, true, true, true, true] rfl rfl ?_
          refine s_move hE rfl rfl ?_; clear hE a; intro a hE
          refine s_move hE rfl rfl ?_; clear hE a; intro a hE
          refine s_fieldAddr hE rfl fo34_2 rfl ?_; clear hE a; intro a hE
          refine s_load1 hE rfl (hM.get 4 rfl) rfl one3 (by intro X h; cases h) rfl ?_; clear hE a; intro a hE
          refine s_fieldAddr hE rfl fo34_3 rfl ?_; clear hE a; intro a hE
          refine s_load1 hE rfl (hM.get 4 rfl) rfl one3 (by intro X h; cases h) rfl ?_; clear hE a; intro a hE
          obtain ⟨cq7, hq7⟩ := own_rd (hM.get 3 rfl)
          obtain ⟨cq8, hq8⟩ := own_rd (hM.get 2 rfl)
          refine s_call hE rfl Tryd.call21 (keyw_c _ _ pass salt _ _ r size _ (hM.get 7 rfl) hq7 hq8 (by first | omega | assumption | (simp; done) | (simp; omega) | decide) (by first | omega | assumption | (simp; done) | (simp; omega) | decide) (by first | omega | assumption | (simp; done) | (simp; omega) | decide) (by first | omega | assumption | (simp; done) | (simp; omega) | decide) (by first | omega | assumption | (simp; done) | (simp; omega) | decide) (by first | omega | assumption | (simp; done) | (simp; omega) | decide)) rfl ?_
          rintro e w11 ⟨v92, rfl, hN⟩
          refine ⟨_, rfl, trivial, ?_⟩; clear hE a; intro a hE
          replace hM : Mem _ _ w11 [_, _, _, _, _, _, _, _, _] := hM.call0 hN ⟨rfl, trivial⟩; clear hN
          refine s_move hE rfl rfl ?_; clear hE a; intro a hE
          refine s_extract hE rfl rfl rfl ?_; clear hE a; intro a hE
          refine s_extract hE rfl rfl rfl ?_; clear hE a; intro a hE
          refine s_assign hE rfl rfl ?_; clear hE a; intro a hE
          refine s_assign hE rfl rfl ?_; clear hE a; intro a hE
          refine q_nil ?_
          replace hE : Env a 103 [(1, _), (2, _), (3, _), (4, _), (5, _), (7, _), (9, _), (10, _), (13, _), (70, _), (74, _)] := hE.sel [1, 2, 3, 4, 5, 7, 9, 10, 13, 70, 74] rfl
          refine hK13 _ _ ?_
          refine wp_seq_k (fun K14 hK14 => ?_)
          refine wp_plain [true, true, true, true, true, true, false, true, true] rfl rfl ?_
          refine s_move hE rfl rfl ?_; clear hE a; intro a hE
          obtain ⟨cs96, hs96⟩ := ownW_rd (hM.get 0 rfl)
          refine s_toStr hE rfl Tryd.underlying22 Tryd.underlying5 Tryd.underlying9 hs96 (by intro X h; cases h) rfl ?_; clear hE a; intro a hE
          refine s_move hE rfl rfl ?_; clear hE a; intro a hE
          obtain ⟨cs98, hs98⟩ := own_rd (hM.get 1 rfl)
          refine s_toStr hE rfl Tryd.underlying22 Tryd.underlying5 Tryd.underlying9 hs98 (by intro X h; cases h) rfl ?_; clear hE a; intro a hE
          refine s_bin hE rfl rfl bins_str.1 rfl ?_; clear hE a; intro a hE
          refine s_move hE rfl rfl ?_; clear hE a; intro a hE
          replace hE := hE.cast 100 rfl (show _ = Value.bool true from (congrArg Value.bool (by first | exact decide_eq_true (by omega) | (rw [decide_eq_true (by omega)]; rfl) | (rw [decide_eq_false (by omega)]; rfl) | rfl | decide | (simp; done) | (simp; omega) | (simp [*]; done))))
          refine g_yes hE rfl rfl ?_
          refine s_call hE rfl Tryd.call15 (awake_c _ (hM.get 8 rfl)) rfl ?_
          rintro e w12 ⟨rfl, hN⟩
          refine ⟨_, rfl, trivial, ?_⟩; clear hE a; intro a hE
          replace hM : Mem _ _ w12 [_, _, _, _, _, _, _, _, _] := hM.call0 hN trivial; clear hN
          refine s_pickt hE rfl rfl rfl ?_; clear hE a; intro a hE
          refine s_assign hE rfl rfl ?_; clear hE a; intro a hE
          refine q_nil ?_
          replace hE : Env a 103 [(1, _), (2, _), (3, _), (4, _), (5, _), (7, _), (9, _), (13, _), (70, _), (74, _)] := hE.sel [1, 2, 3, 4, 5, 7, 9, 13, 70, 74] rfl
          refine hK14 _ _ ?_
          refine wp_ret ?_
          refine f_ret1 hE rfl rfl ?_
          exact ⟨rfl, hM.nil⟩
      trivial
    refine o_or rfl ?_ ?_
    · refine s_buildSlice (xs := []) ([]) hE hM sl22 rfl rfl rfl (by intro v hv; cases hv) rfl rfl rfl rfl ?_; clear hE a; intro a v19 w4 hE hM'
      clear hM; have hM := hM'; clear hM'
      replace hM := hM.ownEq (m' := ([] : List UInt8).length) (cs' := bv ([] : List UInt8)) rfl rfl
      refine q_nil (q_nx ?_)
      refine o_re ?_
      refine o_leaf rfl rfl ?_
      refine s_buildSlice (xs := []) ([]) hE hM sl22 rfl rfl rfl (by intro v hv; cases hv) rfl rfl rfl rfl ?_; clear hE a; intro a v15 w5 hE hM'
      clear hM; have hM := hM'; clear hM'
      replace hM := hM.ownEq (m' := ([] : List UInt8).length) (cs' := bv ([] : List UInt8)) rfl rfl
      refine s_append hE rfl rfl hM sl22 (Src.rd Tryd.underlying22 (hM.get 3 rfl) (bv_one _)) (len47 (by first | omega | (simp; omega))) (by first | omega | (simp; omega)) (by intro X h; cases h; intro b hb; exact fun e => ((apart_of_get hM.apart (i := 0) (j := 2) rfl rfl (by decide)).1 b hb).1 (by rw [e]; exact .head _)) rfl ?_; clear hE a; intro a v18 w6 hE hM'; clear hM; have hM := hM'; clear hM'
      replace hM := Mem.ownNil (q := pass) hM rfl (by first | rfl | (simp; done))
      refine q_nil (q_ph ?_)
      replace hM : Mem _ _ w6 [_, _, _, _, _, _] := hM.pick [1, 0, 2, 3, 4, 5] rfl
      refine s_append hE rfl rfl hM sl22 (Src.rd Tryd.underlying22 (hM.get 4 rfl) (bv_one _)) (len47 (by first | omega | (simp; omega))) (by first | omega | (simp; omega)) (by intro X h; cases h; first | (simp; done) | simp [valBlocks]) rfl ?_; clear hE a; intro a v22 w7 hE hM'; clear hM; have hM := hM'; clear hM'
      replace hM := Mem.ownNil (q := salt) hM rfl (by first | rfl | (simp; done))
      refine s_assign hE rfl rfl ?_; clear hE a; intro a hE
      refine s_assign hE rfl rfl ?_; clear hE a; intro a hE
      refine q_nil ?_
      replace hE : Env a 103 [(1, _), (2, _), (3, _), (4, _), (13, _)] := hE.sel [1, 2, 3, 4, 13] rfl
      refine hK4 _ _ ?_
      refine wp_seq_k (fun K5 hK5 => ?_)
      refine wp_plain [true, true, true, true, true, true, false, true, true, true, true, true] rfl rfl ?_
      refine s_move hE rfl rfl ?_; clear hE a; intro a hE
      refine s_move hE rfl rfl ?_; clear hE a; intro a hE
      refine s_fieldAddr hE rfl fo34_2 rfl ?_; clear hE a; intro a hE
      refine s_load1 hE rfl (hM.get 2 rfl) rfl one3 (by intro X h; cases h) rfl ?_; clear hE a; intro a hE
      refine s_fieldAddr hE rfl fo34_3 rfl ?_; clear hE a; intro a hE
      refine s_load1 hE rfl (hM.get 2 rfl) rfl one3 (by intro X h; cases h) rfl ?_; clear hE a; intro a hE
      obtain ⟨cq9, hq9⟩ := own_rd (hM.get 1 rfl)
      obtain ⟨cq10, hq10⟩ := own_rd (hM.get 0 rfl)
      refine s_call hE rfl Tryd.call21 (keyw_c _ _ pass salt _ _ r size _ (hM.get 5 rfl) hq9 hq10 (by first | omega | assumption | (simp; done) | (simp; omega) | decide) (by first | omega | assumption | (simp; done) | (simp; omega) | decide) (by first | omega | assumption | (simp; done) | (simp; omega) | decide) (by first | omega | assumption | (simp; done) | (simp; omega) | decide) (by first | omega | assumption | (simp; done) | (simp; omega) | decide) (by first | omega | assumption | (simp; done) | (simp; omega) | decide)) rfl ?_
      rintro e w8 ⟨v30, rfl, hN⟩
      refine ⟨_, rfl, trivial, ?_⟩; clear hE a; intro a hE
      replace hM : Mem _ _ w8 [_, _, _, _, _, _, _] := hM.call0 hN ⟨rfl, trivial⟩; clear hN
      refine s_move hE rfl rfl ?_; clear hE a; intro a hE
      refine s_extract hE rfl rfl rfl ?_; clear hE a; intro a hE
      refine s_extract hE rfl rfl rfl ?_; clear hE a; intro a hE
      refine s_assign hE rfl rfl ?_; clear hE a; intro a hE
      refine s_assign hE rfl rfl ?_; clear hE a; intro a hE
      refine q_nil ?_
      replace hE : Env a 103 [(1, _), (2, _), (3, _), (4, _), (5, _), (6, _), (13, _)] := hE.sel [1, 2, 3, 4, 5, 6, 13] rfl
      refine hK5 _ _ ?_
      refine wp_seq_k (fun K6 hK6 => ?_)
      refine wp_plain [true, true, true, true, true, true, true, true, false, true, true, true, true, true] rfl rfl ?_
      refine s_fieldAddr hE rfl fo34_0 rfl ?_; clear hE a; intro a hE
      refine s_load1 hE rfl (hM.get 3 rfl) rfl one22 (by intro X h; cases h) rfl ?_; clear hE a; intro a hE
      refine s_fieldAddr hE rfl fo34_1 rfl ?_; clear hE a; intro a hE
      refine s_load1 hE rfl (hM.get 3 rfl) rfl one22 (by intro X h; cases h) rfl ?_; clear hE a; intro a hE
      refine s_fieldAddr hE rfl fo34_2 rfl ?_; clear hE a; intro a hE
      refine s_load1 hE rfl (hM.get 3 rfl) rfl one3 (by intro X h; cases h) rfl ?_; clear hE a; intro a hE
      refine s_fieldAddr hE rfl fo34_3 rfl ?_; clear hE a; intro a hE
      refine s_load1 hE rfl (hM.get 3 rfl) rfl one3 (by intro X h; cases h) rfl ?_; clear hE a; intro a hE
      refine s_call hE rfl Tryd.call30 (rkey_c _ _ pass salt _ _ r size _ (hM.get 4 rfl) (hM.get 5 rfl) (by first | omega | assumption | (simp; done) | (simp; omega) | decide) (by first | omega | assumption | (simp; done) | (simp; omega) | decide) (by first | omega | assumption | (simp; done) | (simp; omega) | decide) (by first | omega | assumption | (simp; done) | (simp; omega) | decide) (by first | omega | assumption | (simp; done) | (simp; omega) | decide) (by first | omega | assumption | (simp; done) | (simp; omega) | decide)) rfl ?_
      rintro e w9 ⟨v42, rfl, hN⟩
      refine ⟨_, rfl, trivial, ?_⟩; clear hE a; intro a hE
      replace hM : Mem _ _ w9 [_, _, _, _, _, _, _, _] := hM.call0 hN ⟨rfl, trivial⟩; clear hN
      refine s_move hE rfl rfl ?_; clear hE a; intro a hE
      refine s_extract hE rfl rfl rfl ?_; clear hE a; intro a hE
      refine s_extract hE rfl rfl rfl ?_; clear hE a; intro a hE
      refine s_assign hE rfl rfl ?_; clear hE a; intro a hE
      refine s_assign hE rfl rfl ?_; clear hE a; intro a hE
      refine q_nil ?_
      replace hE : Env a 103 [(1, _), (2, _), (3, _), (4, _), (5, _), (6, _), (7, _), (8, _), (13, _)] := hE.sel [1, 2, 3, 4, 5, 6, 7, 8, 13] rfl
      refine hK6 _ _ ?_
      refine wp_seq_k (fun K7 hK7 => ?_)
      refine wp_seq_k (fun K8 hK8 => ?_)
      refine wp_plain [true, true, true, true, true, true, true, true, true, true, true, true, true, true, true, true, true, true, true, true, true, true, true, true, true, true] rfl rfl ?_
      refine s_move hE rfl rfl ?_; clear hE a; intro a hE
      obtain ⟨cs46, hs46⟩ := ownW_rd (hM.get 1 rfl)
      refine s_toStr hE rfl Tryd.underlying22 Tryd.underlying5 Tryd.underlying9 hs46 (by intro X h; cases h) rfl ?_; clear hE a; intro a hE
      refine s_move hE rfl rfl ?_; clear hE a; intro a hE
      obtain ⟨cs48, hs48⟩ := own_rd (hM.get 0 rfl)
      refine s_toStr hE rfl Tryd.underlying22 Tryd.underlying5 Tryd.underlying9 hs48 (by intro X h; cases h) rfl ?_; clear hE a; intro a hE
      refine s_bin hE rfl rfl bins_str.2 rfl ?_; clear hE a; intro a hE
      refine s_move hE rfl rfl ?_; clear hE a; intro a hE
      replace hE := hE.cast 50 rfl (show _ = Value.bool false from (congrArg Value.bool (by first | exact decide_eq_false (by omega) | (rw [decide_eq_true (by omega)]; rfl) | (rw [decide_eq_false (by omega)]; rfl) | rfl | decide | (simp; done) | (simp; omega) | (simp [*]; done))))
      refine g_yes hE rfl rfl ?_
      refine s_move hE rfl rfl ?_; clear hE a; intro a hE
      refine g_yes hE rfl rfl ?_
      refine s_move hE rfl rfl ?_; clear hE a; intro a hE
      refine g_yes hE rfl rfl ?_
      refine s_bin hE rfl rfl bin_neq rfl ?_; clear hE a; intro a hE
      refine s_pickf hE rfl rfl rfl ?_; clear hE a; intro a hE
      refine s_move hE rfl rfl ?_; clear hE a; intro a hE
      replace hE := hE.cast 55 rfl (show _ = Value.bool false from (congrArg Value.bool (by first | exact decide_eq_false (by omega) | (rw [decide_eq_true (by omega)]; rfl) | (rw [decide_eq_false (by omega)]; rfl) | rfl | decide | (simp; done) | (simp; omega) | (simp [*]; done))))
      refine g_yes hE rfl rfl ?_
      refine s_move hE rfl rfl ?_; clear hE a; intro a hE
      refine g_yes hE rfl rfl ?_
      obtain ⟨cs57, hs57⟩ := own_rd (hM.get 3 rfl)
      refine s_toStr hE rfl Tryd.underlying22 Tryd.underlying5 Tryd.underlying9 hs57 (by intro X h; cases h) rfl ?_; clear hE a; intro a hE
      refine g_yes hE rfl rfl ?_
      refine s_fieldAddr hE rfl fo34_0 rfl ?_; clear hE a; intro a hE
      refine g_yes hE rfl rfl ?_
      refine s_load1 hE rfl (hM.get 4 rfl) rfl one22 (by intro X h; cases h) rfl ?_; clear hE a; intro a hE
      refine g_yes hE rfl rfl ?_
      refine s_toStr hE rfl Tryd.underlying22 Tryd.underlying5 Tryd.underlying9 (hM.get 5 rfl) (by intro X h; cases h) rfl ?_; clear hE a; intro a hE
      refine g_yes hE rfl rfl ?_
      refine s_bin hE rfl rfl bins_str.2 rfl ?_; clear hE a; intro a hE
      refine s_pickf hE rfl rfl rfl ?_; clear hE a; intro a hE
      refine s_move hE rfl rfl ?_; clear hE a; intro a hE
      replace hE := hE.cast 63 rfl (show _ = Value.bool false from (congrArg Value.bool (by first | exact decide_eq_false (by omega) | (rw [decide_eq_true (by omega)]; rfl) | (rw [decide_eq_false (by omega)]; rfl) | rfl | decide | (simp; done) | (simp; omega) | (simp [*]; done))))
      refine g_yes hE rfl rfl ?_
      refine s_move hE rfl rfl ?_; clear hE a; intro a hE
      refine g_yes hE rfl rfl ?_
      obtain ⟨cs65, hs65⟩ := own_rd (hM.get 2 rfl)
      refine s_toStr hE rfl Tryd.underlying22 Tryd.underlying5 Tryd.underlying9 hs65 (by intro X h; cases h) rfl ?_; clear hE a; intro a hE
      refine g_yes hE rfl rfl ?_
      refine s_fieldAddr hE rfl fo34_1 rfl ?_; clear hE a; intro a hE
      refine g_yes hE rfl rfl ?_
      refine s_load1 hE rfl (hM.get 4 rfl) rfl one22 (by intro X h; cases h) rfl ?_; clear hE a; intro a hE
      refine g_yes hE rfl rfl ?_
      refine s_toStr hE rfl Tryd.underlying22 Tryd.underlying5 Tryd.underlying9 (hM.get 6 rfl) (by intro X h; cases h) rfl ?_; clear hE a; intro a hE
      refine g_yes hE rfl rfl ?_
      refine s_bin hE rfl rfl bins_str.2 rfl ?_; clear hE a; intro a hE
      refine s_pickf hE rfl rfl rfl ?_; clear hE a; intro a hE
      refine q_nil ?_
      replace hE : Env a 103 [(1, _), (2, _), (3, _), (4, _), (5, _), (7, _), (13, _), (70, _)] := hE.sel [1, 2, 3, 4, 5, 7, 13, 70] rfl
      refine hK8 _ _ ?_
      replace hE := hE.cast 70 rfl (show _ = Value.bool false from (congrArg Value.bool (by first | exact decide_eq_false (by omega) | (rw [decide_eq_true (by omega)]; rfl) | (rw [decide_eq_false (by omega)]; rfl) | rfl | decide | (simp; done) | (simp; omega) | (simp [*]; done))))
      refine wp_cond_false (hE.eval rfl) ?_
      refine wp_skip ?_
      refine hK7 _ _ ?_
      refine wp_seq_k (fun K9 hK9 => ?_)
      refine wp_seq_k (fun K10 hK10 => ?_)
      refine wp_plain [true] rfl rfl ?_
      refine s_assign hE rfl rfl ?_; clear hE a; intro a hE
      refine q_nil ?_
      refine hK10 _ _ ?_
      refine wp_block ?_
      replace hM : Mem _ _ w9 [_, _, _, _, _, _, _, _] := hM.pick [1, 0, 2, 3, 4, 5, 6, 7] rfl
      replace hM := Mem.ownWB (p := keyW pass salt r size) (q := padI (keyW pass salt r size) 255 0) hM rfl
      replace hM : Mem _ _ w9 [_, _, _, _, _, _, _, _] := hM.pick [1, 0, 2, 3, 4, 5, 6, 7] rfl
      refine c_loop (fun (i : Nat) a w' => i ≤ size ∧ Env a 103 [(1, .pointer (some ⟨b1, 0, none⟩)), (2, .bool false), (3, v18), (4, v22), (5, v30), (7, v42), (9, .int .i64 ((i : Nat) : Int)), (13, .bool false), (70, .bool false)] ∧ Mem w [] w' [own v42 1 (keyW pass salt r size).length (bv (keyW pass salt r size)), ownW v30 1 (padI (keyW pass salt r size) 255 i).length (bv (padI (keyW pass salt r size) 255 i)), own v22 1 salt.length (bv salt), own v18 1 pass.length (bv pass), blk b1 [[v], [u], [.int .i64 ((r : Nat) : Int)], [.int .i64 ((size : Nat) : Int)]] [1, 1, 1, 1] 34, rd v 1 pass.length c (bv pass), rd u 1 salt.length cu (bv salt), glb 0]) (fun i => size - i) 0 ⟨Nat.zero_le _, hE.sel [1, 2, 3, 4, 5, 7, 9, 13, 70] rfl, hM⟩ ?_
      clear hE hM a; rintro i a w10 ⟨hi, hE, hM⟩
      refine wp_seq_k (fun K11 hK11 => ?_)
      refine wp_seq_k (fun K12 hK12 => ?_)
      refine wp_plain [true, true, true, true] rfl rfl ?_
      refine s_move hE rfl rfl ?_; clear hE a; intro a hE
      refine s_move hE rfl rfl ?_; clear hE a; intro a hE
      refine s_len hE rfl Tryd.underlying22 (ownW_slice (hM.get 1 rfl)) rfl ?_; clear hE a; intro a hE
      replace hE := hE.cast 73 rfl (show _ = Value.int .i64 ((size : Nat) : Int) from (congrArg (fun n : Nat => Value.int .i64 (n : Int)) ((padI_length ..).trans (by simp))))
      refine s_bin hE rfl rfl bin_lss rfl ?_; clear hE a; intro a hE
      refine q_nil ?_
      replace hE : Env a 103 [(1, _), (2, _), (3, _), (4, _), (5, _), (7, _), (9, _), (13, _), (70, _), (74, _)] := hE.sel [1, 2, 3, 4, 5, 7, 9, 13, 70, 74] rfl
      refine hK12 _ _ ?_
      refine hE.split 74 rfl (fun hb74 hE' => ?_) (fun hb74 hE' => ?_)
      · replace hE := hE'; clear hE'
        replace hb74 := of_decide_eq_true hb74
        replace hb74 : i < size := by omega
        refine wp_cond_true (hE.eval rfl) ?_
        refine wp_skip ?_
        refine hK11 _ _ ?_
        refine wp_seq_k (fun K13 hK13 => ?_)
        refine wp_block ?_
        refine wp_plain [true, true, true, true, true, true, true, true, false] rfl rfl ?_
        refine s_move hE rfl rfl ?_; clear hE a; intro a hE
        refine s_move hE rfl rfl ?_; clear hE a; intro a hE
        refine s_move hE rfl rfl ?_; clear hE a; intro a hE
        refine s_move hE rfl rfl ?_; clear hE a; intro a hE
        obtain ⟨cx81, hx81⟩ := ownW_rd (hM.get 1 rfl)
        refine s_indexRd (j := i) hE rfl hx81 rfl slt22 (by first | rfl | omega) (by have hl_ : (padI (keyW pass salt r size) 255 i).length = size := ((padI_length ..).trans (by simp)); first | omega | (simp; omega)) rfl ?_; clear hE a; intro a p81 hE hc81 hp81
        rw [bv_elem (by have hl_ : (padI (keyW pass salt r size) 255 i).length = size := ((padI_length ..).trans (by simp)); first | omega | (simp; omega))] at hc81
        refine s_loadAt1 hE rfl hc81 one5 (by intro X h; cases h) rfl ?_; clear hE a; intro a hE
        refine s_bin hE rfl rfl (bin_xor8 (x := (padI (keyW pass salt r size) 255 i).getD i 0) (y := 255)) rfl ?_; clear hE a; intro a hE
        refine s_indexW (j := i) hE rfl (hM.get 1 rfl) rfl slt22 (by first | rfl | omega) (by have hl_ : (padI (keyW pass salt r size) 255 i).length = size := ((padI_length ..).trans (by simp)); first | omega | (simp; omega)) rfl ?_; clear hE a; intro a hE hc84
        replace hM : Mem _ _ w10 [_, _, _, _, _, _, _, _] := hM.pick [1, 0, 2, 3, 4, 5, 6, 7] rfl
        refine s_storeW (vs := [_]) hE rfl rfl hM rfl sz5 rfl (one1 rfl) (by have hl_ : (padI (keyW pass salt r size) 255 i).length = size := ((padI_length ..).trans (by simp)); first | omega | (simp; omega)) (by have hl_ : (padI (keyW pass salt r size) 255 i).length = size := ((padI_length ..).trans (by simp)); first | omega | (simp; omega)) (by intro X h; cases h) ?_; intro w11 hM'; clear hM; have hM := hM'; clear hM'
        replace hM := Mem.ownWSet (p := padI (keyW pass salt r size) 255 i) (j := i) (b := ((padI (keyW pass salt r size) 255 i).getD i 0) ^^^ 255) hM (by have hl_ : (padI (keyW pass salt r size) 255 i).length = size := ((padI_length ..).trans (by simp)); first | omega | (simp; omega))
        refine q_nil ?_
        replace hE : Env a 103 [(1, _), (2, _), (3, _), (4, _), (5, _), (7, _), (9, _), (13, _), (70, _), (74, _)] := hE.sel [1, 2, 3, 4, 5, 7, 9, 13, 70, 74] rfl
        refine q_block_n ?_
        refine hK13 _ _ ?_
        refine wp_plain [true, true, true] rfl rfl ?_
        refine s_move hE rfl rfl ?_; clear hE a; intro a hE
        refine s_bin hE rfl rfl (show Bin _ _ _ _ _ (.int .i64 ((i + 1 : Nat) : Int)) from bin_add (by rw [wrap_i64 (by omega) (by omega)]; omega)) rfl ?_; clear hE a; intro a hE
        refine s_assign hE rfl rfl ?_; clear hE a; intro a hE
        refine q_nil ?_
        replace hE : Env a 103 [(1, _), (2, _), (3, _), (4, _), (5, _), (7, _), (9, _), (13, _), (70, _), (74, _)] := hE.sel [1, 2, 3, 4, 5, 7, 9, 13, 70, 74] rfl
        replace hE := hE.cast 9 rfl (show _ = Value.int .i64 (((i + 1) : Nat) : Int) from congrArg _ (by omega))
        replace hM := Mem.ownWB (p := (padI (keyW pass salt r size) 255 i).set i (((padI (keyW pass salt r size) 255 i).getD i 0) ^^^ 255)) (q := padI (keyW pass salt r size) 255 (i + 1)) hM (by rw [padI_get (by simp; omega)]; exact padI_set (by simp; omega))
        replace hM : Mem _ _ w11 [_, _, _, _, _, _, _, _] := hM.pick [0, 1, 2, 3, 4, 5, 6, 7] rfl
        replace hM : Mem _ _ w11 [_, _, _, _, _, _, _, _] := hM.pick [1, 0, 2, 3, 4, 5, 6, 7] rfl
        exact ⟨i + 1, ⟨by omega, hE.sel [1, 2, 3, 4, 5, 7, 9, 13, 70] rfl, hM⟩, by omega⟩
      · replace hE := hE'; clear hE'
        replace hb74 := of_decide_eq_false hb74
        obtain rfl : size = i := by omega
        refine wp_cond_false (hE.eval rfl) ?_
        refine wp_exit ?_
        refine q_then_e ?_
        refine q_then_e ?_
        refine q_block_x ?_
        refine hK9 _ _ ?_
        refine wp_seq_k (fun K13 hK13 => ?_)
        refine wp_plain [true, true, true, true, true, true, false, true, true, true, true, true] rfl rfl ?_
        refine s_move hE rfl rfl ?_; clear hE a; intro a hE
        refine s_move hE rfl rfl ?_; clear hE a; intro a hE
        refine s_fieldAddr hE rfl fo34_2 rfl ?_; clear hE a; intro a hE
        refine s_load1 hE rfl (hM.get 4 rfl) rfl one3 (by intro X h; cases h) rfl ?_; clear hE a; intro a hE
        refine s_fieldAddr hE rfl fo34_3 rfl ?_; clear hE a; intro a hE
        refine s_load1 hE rfl (hM.get 4 rfl) rfl one3 (by intro X h; cases h) rfl ?_; clear hE a; intro a hE
        obtain ⟨cq11, hq11⟩ := own_rd (hM.get 3 rfl)
        obtain ⟨cq12, hq12⟩ := own_rd (hM.get 2 rfl)
        refine s_call hE rfl Tryd.call21 (keyw_c _ _ pass salt _ _ r size _ (hM.get 7 rfl) hq11 hq12 (by first | omega | assumption | (simp; done) | (simp; omega) | decide) (by first | omega | assumption | (simp; done) | (simp; omega) | decide) (by first | omega | assumption | (simp; done) | (simp; omega) | decide) (by first | omega | assumption | (simp; done) | (simp; omega) | decide) (by first | omega | assumption | (simp; done) | (simp; omega) | decide) (by first | omega | assumption | (simp; done) | (simp; omega) | decide)) rfl ?_
        rintro e w11 ⟨v92, rfl, hN⟩
        refine ⟨_, rfl, trivial, ?_⟩; clear hE a; intro a hE
        replace hM : Mem _ _ w11 [_, _, _, _, _, _, _, _, _] := hM.call0 hN ⟨rfl, trivial⟩; clear hN
        refine s_move hE rfl rfl ?_; clear hE a; intro a hE
        refine s_extract hE rfl rfl rfl ?_; clear hE a; intro a hE
        refine s_extract hE rfl rfl rfl ?_; clear hE a; intro a hE
        refine s_assign hE rfl rfl ?_; clear hE a; intro a hE
        refine s_assign hE rfl rfl ?_; clear hE a; intro a hE
        refine q_nil ?_
        replace hE : Env a 103 [(1, _), (2, _), (3, _), (4, _), (5, _), (7, _), (9, _), (10, _), (13, _), (70, _), (74, _)] := hE.sel [1, 2, 3, 4, 5, 7, 9, 10, 13, 70, 74] rfl
        refine hK13 _ _ ?_
        refine wp_seq_k (fun K14 hK14 => ?_)
        refine wp_plain [true, true, true, true, true, true, false, true, true] rfl rfl ?_
        refine s_move hE rfl rfl ?_; clear hE a; intro a hE
        obtain ⟨cs96, hs96⟩ := ownW_rd (hM.get 0 rfl)
        refine s_toStr hE rfl Tryd.underlying22 Tryd.underlying5 Tryd.underlying9 hs96 (by intro X h; cases h) rfl ?_; clear hE a; intro a hE
        refine s_move hE rfl rfl ?_; clear hE a; intro a hE
        obtain ⟨cs98, hs98⟩ := own_rd (hM.get 1 rfl)
        refine s_toStr hE rfl Tryd.underlying22 Tryd.underlying5 Tryd.underlying9 hs98 (by intro X h; cases h) rfl ?_; clear hE a; intro a hE
        refine s_bin hE rfl rfl bins_str.1 rfl ?_; clear hE a; intro a hE
        refine s_move hE rfl rfl ?_; clear hE a; intro a hE
        replace hE := hE.cast 100 rfl (show _ = Value.bool true from (congrArg Value.bool (by first | exact decide_eq_true (by omega) | (rw [decide_eq_true (by omega)]; rfl) | (rw [decide_eq_false (by omega)]; rfl) | rfl | decide | (simp; done) | (simp; omega) | (simp [*]; done))))
        refine g_yes hE rfl rfl ?_
        refine s_call hE rfl Tryd.call15 (awake_c _ (hM.get 8 rfl)) rfl ?_
        rintro e w12 ⟨rfl, hN⟩
        refine ⟨_, rfl, trivial, ?_⟩; clear hE a; intro a hE
        replace hM : Mem _ _ w12 [_, _, _, _, _, _, _, _, _] := hM.call0 hN trivial; clear hN
        refine s_pickt hE rfl rfl rfl ?_; clear hE a; intro a hE
        refine s_assign hE rfl rfl ?_; clear hE a; intro a hE
        refine q_nil ?_
        replace hE : Env a 103 [(1, _), (2, _), (3, _), (4, _), (5, _), (7, _), (9, _), (13, _), (70, _), (74, _)] := hE.sel [1, 2, 3, 4, 5, 7, 9, 13, 70, 74] rfl
        refine hK14 _ _ ?_
        refine wp_ret ?_
        refine f_ret1 hE rfl rfl ?_
        exact ⟨rfl, hM.nil⟩
    trivial
theorem keysBad_c (v u : Value) (pass salt : List UInt8) (c cu : Nat) (z y : Int) (w : World) (hG : (glb 0).holds w) (hr : (rd v 1 pass.length c (bv pass)).holds w) (hu : (rd u 1 salt.length cu (bv salt)).holds w) (hbad : z < 1 ∨ 4096 < z ∨ y < 1 ∨ 128 < y) : Calls Tryd.prog 10 #[.agg #[v, u, .int .i64 z, .int .i64 y]] w fun e w' => e = .returned (.bool true) ∧ Mem w [] w' [] := by
  have hM : Mem w [] w [rd v 1 pass.length c (bv pass), rd u 1 salt.length cu (bv salt), glb 0] := Mem.startR w (fun g hg => by
    simp only [List.mem_cons, List.not_mem_nil, or_false] at hg
    rcases hg with rfl | rfl | rfl
    · exact ⟨hr, rfl⟩
    · exact ⟨hu, rfl⟩
    · exact ⟨hG, rfl⟩)
  have ho1 := rd_one hr
  have ho2 := rd_one hu
  refine f_enter 103 Tryd.func10 rfl rfl rfl ?_
  intro a hE
  replace hE : Env a 103 [(0, _)] := hE
  refine wp_seq_k (fun K1 hK1 => ?_)
  refine wp_plain [false, true] rfl rfl ?_
  refine s_box (ss := [[v], [u], [.int .i64 z], [.int .i64 y]]) [1, 1, 1, 1] hE hM rfl rfl (by simp [*]) rfl ?_; clear hE a; intro a b1 w1 hE hM'
  clear hM; have hM := hM'; clear hM'
  refine s_assign hE rfl rfl ?_; clear hE a; intro a hE
  refine q_nil ?_
  replace hE : Env a 103 [(1, _), (2, _)] := hE.sel [1, 2] rfl
  refine hK1 _ _ ?_
  refine wp_seq_k (fun K2 hK2 => ?_)
  refine wp_seq_k (fun K3 hK3 => ?_)
  refine wp_plain [true, false] rfl rfl ?_
  refine s_loadN hE rfl (hM.get 0 rfl) row34 rfl (by intro X h; cases h) rfl ?_; clear hE a; intro a hE
  refine s_call hE rfl Tryd.call20 (large_c _ _ _ _ _ _ _ _ _ (hM.get 1 rfl) (hM.get 2 rfl)) rfl ?_
  rintro e w2 ⟨bl, rfl, hlarge, hN⟩
  refine ⟨_, rfl, trivial, ?_⟩; clear hE a; intro a hE
  replace hM : Mem _ _ w2 [_, _, _, _] := hM.call0 hN trivial; clear hN
  refine q_nil ?_
  replace hE : Env a 103 [(1, _), (2, _), (13, _)] := hE.sel [1, 2, 13] rfl
  refine hK3 _ _ ?_
  refine hE.split 13 rfl (fun hb13 hE' => ?_) (fun hb13 hE' => ?_)
  · replace hE := hE'; clear hE'
    refine wp_cond_true (hE.eval rfl) ?_
    refine wp_seq_k (fun K4 hK4 => ?_)
    refine wp_plain [false, true] rfl rfl ?_
    refine s_call hE rfl Tryd.call15 (awake_c _ (hM.get 3 rfl)) rfl ?_
    rintro e w3 ⟨rfl, hN⟩
    refine ⟨_, rfl, trivial, ?_⟩; clear hE a; intro a hE
    replace hM : Mem _ _ w3 [_, _, _, _] := hM.call0 hN trivial; clear hN
    refine s_assign hE rfl rfl ?_; clear hE a; intro a hE
    refine q_nil ?_
    replace hE : Env a 103 [(1, _), (2, _), (13, _)] := hE.sel [1, 2, 13] rfl
    refine hK4 _ _ ?_
    refine wp_ret ?_
    refine q_then_r ?_
    refine f_ret1 hE rfl rfl ?_
    exact ⟨rfl, hM.nil⟩
  · replace hE := hE'; clear hE'
    have hl := hlarge hb13
    refine wp_cond_false (hE.eval rfl) ?_
    refine wp_skip ?_
    refine hK2 _ _ ?_
    refine wp_seq_k (fun K4 hK4 => ?_)
    refine wp_treeM hM (by kernel_rfl) (fun b => b ≠ b1) (fun _ => True) (.re [(1, true), (2, true), (5, true), (6, true), (0, false), (3, false), (4, false), (7, false), (8, true), (9, true)] (.fl 4 (.or 0 (.re [(3, false), (4, false), (7, false), (8, true), (9, true)] (.fl 0 (.or 3 (.re [(4, false), (7, false), (8, true), (9, true)] (.leaf 1)) (.or 4 (.re [(3, false), (7, false), (8, true), (9, true)] (.leaf 1)) (.stop))))) (.or 4 (.re [(0, false), (3, false), (7, false), (8, true), (9, true)] (.leaf 2)) (.stop))))) [(1, true), (2, true), (5, true), (6, true), (0, false), (3, false), (4, false), (7, false), (8, true), (9, true)] [(0, [(3, 0), (7, 3), (8, 0), (9, 0)]), (3, [(7, 3), (8, 3), (9, 3)]), (4, [(7, 4), (8, 7), (9, 4)]), (7, [(8, 7), (9, 7)]), (1, [(2, 1), (3, 2), (7, 3), (8, 1), (9, 1)]), (2, [(3, 2), (7, 3), (8, 2), (9, 2)]), (5, [(6, 5), (7, 6), (8, 7), (9, 5)]), (6, [(7, 6), (8, 7), (9, 6)])] (by kernel_rfl) ?_
    intro w3 hM' hww3; clear hM; have hM := hM'; clear hM'
    refine o_re ?_
    refine o_fl rfl ?_
    refine s_fieldAddr hE rfl fo34_0 rfl ?_; clear hE a; intro a hE
    refine s_load1 hE rfl (hM.get 0 rfl) rfl one22 (by intro X h; cases h; simp) rfl ?_; clear hE a; intro a hE
    refine s_fieldAddr hE rfl fo34_1 rfl ?_; clear hE a; intro a hE
    refine s_load1 hE rfl (hM.get 0 rfl) rfl one22 (by intro X h; cases h; simp) rfl ?_; clear hE a; intro a hE
    refine q_nil (q_nx ?_)
    refine o_or rfl ?_ ?_
    · refine s_buildSlice (xs := []) ([]) hE hM sl22 rfl rfl rfl (by intro v hv; cases hv) rfl rfl rfl rfl ?_; clear hE a; intro a v15 w4 hE hM'
      clear hM; have hM := hM'; clear hM'
      replace hM := hM.ownEq (m' := ([] : List UInt8).length) (cs' := bv ([] : List UInt8)) rfl rfl
      refine q_nil (q_nx ?_)
      refine o_re ?_
      refine o_fl rfl ?_
      refine q_nil (q_nx ?_)
      refine o_or rfl ?_ ?_
      · refine s_append hE rfl rfl hM sl22 (Src.rd Tryd.underlying22 (hM.get 2 rfl) (bv_one _)) (len47 (by first | omega | (simp; omega))) (by first | omega | (simp; omega)) (by intro X h; cases h; intro b hb; exact fun e => ((apart_of_get hM.apart (i := 0) (j := 1) rfl rfl (by decide)).1 b hb).1 (by rw [e]; exact .head _)) rfl ?_; clear hE a; intro a v18 w5 hE hM'; clear hM; have hM := hM'; clear hM'
        replace hM := Mem.ownNil (q := pass) hM rfl (by first | rfl | (simp; done))
        refine q_nil (q_nx ?_)
        refine o_re ?_
        refine o_leaf rfl rfl ?_
        refine s_buildSlice (xs := []) ([]) hE hM sl22 rfl rfl rfl (by intro v hv; cases hv) rfl rfl rfl rfl ?_; clear hE a; intro a v19 w6 hE hM'
        clear hM; have hM := hM'; clear hM'
        replace hM := hM.ownEq (m' := ([] : List UInt8).length) (cs' := bv ([] : List UInt8)) rfl rfl
        refine q_nil (q_ph ?_)
        refine s_append hE rfl rfl hM sl22 (Src.rd Tryd.underlying22 (hM.get 4 rfl) (bv_one _)) (len47 (by first | omega | (simp; omega))) (by first | omega | (simp; omega)) (by intro X h; cases h; first | (simp; done) | simp [valBlocks]) rfl ?_; clear hE a; intro a v22 w7 hE hM'; clear hM; have hM := hM'; clear hM'
        replace hM := Mem.ownNil (q := salt) hM rfl (by first | rfl | (simp; done))
        refine s_assign hE rfl rfl ?_; clear hE a; intro a hE
        refine s_assign hE rfl rfl ?_; clear hE a; intro a hE
        refine q_nil ?_
        replace hE : Env a 103 [(1, _), (2, _), (3, _), (4, _), (13, _)] := hE.sel [1, 2, 3, 4, 13] rfl
        refine hK4 _ _ ?_
        refine wp_seq_k (fun K5 hK5 => ?_)
        refine wp_plain [true, true, true, true, true, true, false, true, true, true, true, true] rfl rfl ?_
        refine s_move hE rfl rfl ?_; clear hE a; intro a hE
        refine s_move hE rfl rfl ?_; clear hE a; intro a hE
        refine s_fieldAddr hE rfl fo34_2 rfl ?_; clear hE a; intro a hE
        refine s_load1 hE rfl (hM.get 2 rfl) rfl one3 (by intro X h; cases h) rfl ?_; clear hE a; intro a hE
        refine s_fieldAddr hE rfl fo34_3 rfl ?_; clear hE a; intro a hE
        refine s_load1 hE rfl (hM.get 2 rfl) rfl one3 (by intro X h; cases h) rfl ?_; clear hE a; intro a hE
        refine s_call hE rfl Tryd.call21 (key_bad _ _ z y _ hbad) rfl ?_
        rintro e w8 ⟨rfl, hN⟩
        refine ⟨_, rfl, trivial, ?_⟩; clear hE a; intro a hE
        replace hM : Mem _ _ w8 [_, _, _, _, _, _] := hM.call0 hN trivial; clear hN
        refine s_move hE rfl rfl ?_; clear hE a; intro a hE
        refine s_extract hE rfl rfl rfl ?_; clear hE a; intro a hE
        refine s_extract hE rfl rfl rfl ?_; clear hE a; intro a hE
        refine s_assign hE rfl rfl ?_; clear hE a; intro a hE
        refine s_assign hE rfl rfl ?_; clear hE a; intro a hE
        refine q_nil ?_
        replace hE : Env a 103 [(1, _), (2, _), (3, _), (4, _), (5, _), (6, _), (13, _)] := hE.sel [1, 2, 3, 4, 5, 6, 13] rfl
        refine hK5 _ _ ?_
        refine wp_seq_k (fun K6 hK6 => ?_)
        refine wp_plain [true, true, true, true, true, true, true, true, false, true, true, true, true, true] rfl rfl ?_
        refine s_fieldAddr hE rfl fo34_0 rfl ?_; clear hE a; intro a hE
        refine s_load1 hE rfl (hM.get 2 rfl) rfl one22 (by intro X h; cases h) rfl ?_; clear hE a; intro a hE
        refine s_fieldAddr hE rfl fo34_1 rfl ?_; clear hE a; intro a hE
        refine s_load1 hE rfl (hM.get 2 rfl) rfl one22 (by intro X h; cases h) rfl ?_; clear hE a; intro a hE
        refine s_fieldAddr hE rfl fo34_2 rfl ?_; clear hE a; intro a hE
        refine s_load1 hE rfl (hM.get 2 rfl) rfl one3 (by intro X h; cases h) rfl ?_; clear hE a; intro a hE
        refine s_fieldAddr hE rfl fo34_3 rfl ?_; clear hE a; intro a hE
        refine s_load1 hE rfl (hM.get 2 rfl) rfl one3 (by intro X h; cases h) rfl ?_; clear hE a; intro a hE
        refine s_call hE rfl Tryd.call30 (rkey_bad _ _ z y _ hbad) rfl ?_
        rintro e w9 ⟨rfl, hN⟩
        refine ⟨_, rfl, trivial, ?_⟩; clear hE a; intro a hE
        replace hM : Mem _ _ w9 [_, _, _, _, _, _] := hM.call0 hN trivial; clear hN
        refine s_move hE rfl rfl ?_; clear hE a; intro a hE
        refine s_extract hE rfl rfl rfl ?_; clear hE a; intro a hE
        refine s_extract hE rfl rfl rfl ?_; clear hE a; intro a hE
        refine s_assign hE rfl rfl ?_; clear hE a; intro a hE
        refine s_assign hE rfl rfl ?_; clear hE a; intro a hE
        refine q_nil ?_
        replace hE : Env a 103 [(1, _), (2, _), (3, _), (4, _), (5, _), (6, _), (7, _), (8, _), (13, _)] := hE.sel [1, 2, 3, 4, 5, 6, 7, 8, 13] rfl
        refine hK6 _ _ ?_
        refine wp_seq_k (fun K7 hK7 => ?_)
        refine wp_seq_k (fun K8 hK8 => ?_)
        refine wp_plain [true, true, true, true, true, true, true, true, true, true, true, true, true, true, true, true, true, true, true, true, true, true, true, true, true, true] rfl rfl ?_
        refine s_move hE rfl rfl ?_; clear hE a; intro a hE
        refine s_toStr hE rfl Tryd.underlying22 Tryd.underlying5 Tryd.underlying9 (rd_nil _) (by intro X h; first | (cases h; done) | (cases h; simp [rd, rdB])) rfl ?_; clear hE a; intro a hE
        refine s_move hE rfl rfl ?_; clear hE a; intro a hE
        refine s_toStr hE rfl Tryd.underlying22 Tryd.underlying5 Tryd.underlying9 (rd_nil _) (by intro X h; first | (cases h; done) | (cases h; simp [rd, rdB])) rfl ?_; clear hE a; intro a hE
        refine s_bin hE rfl rfl bins_str.2 rfl ?_; clear hE a; intro a hE
        refine s_move hE rfl rfl ?_; clear hE a; intro a hE
        replace hE := hE.cast 50 rfl (show _ = Value.bool false from (congrArg Value.bool (by first | exact decide_eq_false (by omega) | (rw [decide_eq_true (by omega)]; rfl) | (rw [decide_eq_false (by omega)]; rfl) | rfl | decide | (simp; done) | (simp; omega) | (simp [*]; done))))
        refine g_yes hE rfl rfl ?_
        refine s_move hE rfl rfl ?_; clear hE a; intro a hE
        refine g_yes hE rfl rfl ?_
        refine s_move hE rfl rfl ?_; clear hE a; intro a hE
        refine g_yes hE rfl rfl ?_
        refine s_bin hE rfl rfl bin_neq rfl ?_; clear hE a; intro a hE
        refine s_pickf hE rfl rfl rfl ?_; clear hE a; intro a hE
        refine s_move hE rfl rfl ?_; clear hE a; intro a hE
        replace hE := hE.cast 55 rfl (show _ = Value.bool false from (congrArg Value.bool (by first | exact decide_eq_false (by omega) | (rw [decide_eq_true (by omega)]; rfl) | (rw [decide_eq_false (by omega)]; rfl) | rfl | decide | (simp; done) | (simp; omega) | (simp [*]; done))))
        refine g_yes hE rfl rfl ?_
        refine s_move hE rfl rfl ?_; clear hE a; intro a hE
        refine g_yes hE rfl rfl ?_
        obtain ⟨cs57, hs57⟩ := own_rd (hM.get 1 rfl)
        refine s_toStr hE rfl Tryd.underlying22 Tryd.underlying5 Tryd.underlying9 hs57 (by intro X h; cases h) rfl ?_; clear hE a; intro a hE
        refine g_yes hE rfl rfl ?_
        refine s_fieldAddr hE rfl fo34_0 rfl ?_; clear hE a; intro a hE
        refine g_yes hE rfl rfl ?_
        refine s_load1 hE rfl (hM.get 2 rfl) rfl one22 (by intro X h; cases h) rfl ?_; clear hE a; intro a hE
        refine g_yes hE rfl rfl ?_
        refine s_toStr hE rfl Tryd.underlying22 Tryd.underlying5 Tryd.underlying9 (hM.get 3 rfl) (by intro X h; cases h) rfl ?_; clear hE a; intro a hE
        refine g_yes hE rfl rfl ?_
        refine s_bin hE rfl rfl bins_str.2 rfl ?_; clear hE a; intro a hE
        refine s_pickf hE rfl rfl rfl ?_; clear hE a; intro a hE
        refine s_move hE rfl rfl ?_; clear hE a; intro a hE
        replace hE := hE.cast 63 rfl (show _ = Value.bool false from (congrArg Value.bool (by first | exact decide_eq_false (by omega) | (rw [decide_eq_true (by omega)]; rfl) | (rw [decide_eq_false (by omega)]; rfl) | rfl | decide | (simp; done) | (simp; omega) | (simp [*]; done))))
        refine g_yes hE rfl rfl ?_
        refine s_move hE rfl rfl ?_; clear hE a; intro a hE
        refine g_yes hE rfl rfl ?_
        obtain ⟨cs65, hs65⟩ := own_rd (hM.get 0 rfl)
        refine s_toStr hE rfl Tryd.underlying22 Tryd.underlying5 Tryd.underlying9 hs65 (by intro X h; cases h) rfl ?_; clear hE a; intro a hE
        refine g_yes hE rfl rfl ?_
        refine s_fieldAddr hE rfl fo34_1 rfl ?_; clear hE a; intro a hE
        refine g_yes hE rfl rfl ?_
        refine s_load1 hE rfl (hM.get 2 rfl) rfl one22 (by intro X h; cases h) rfl ?_; clear hE a; intro a hE
        refine g_yes hE rfl rfl ?_
        refine s_toStr hE rfl Tryd.underlying22 Tryd.underlying5 Tryd.underlying9 (hM.get 4 rfl) (by intro X h; cases h) rfl ?_; clear hE a; intro a hE
        refine g_yes hE rfl rfl ?_
        refine s_bin hE rfl rfl bins_str.2 rfl ?_; clear hE a; intro a hE
        refine s_pickf hE rfl rfl rfl ?_; clear hE a; intro a hE
        refine q_nil ?_
        replace hE : Env a 103 [(1, _), (2, _), (3, _), (4, _), (5, _), (7, _), (13, _), (70, _)] := hE.sel [1, 2, 3, 4, 5, 7, 13, 70] rfl
        refine hK8 _ _ ?_
        replace hE := hE.cast 70 rfl (show _ = Value.bool false from (congrArg Value.bool (by first | exact decide_eq_false (by omega) | (rw [decide_eq_true (by omega)]; rfl) | (rw [decide_eq_false (by omega)]; rfl) | rfl | decide | (simp; done) | (simp; omega) | (simp [*]; done))))
        refine wp_cond_false (hE.eval rfl) ?_
        refine wp_skip ?_
        refine hK7 _ _ ?_
        refine wp_seq_k (fun K9 hK9 => ?_)
        refine wp_seq_k (fun K10 hK10 => ?_)
        refine wp_plain [true] rfl rfl ?_
        refine s_assign hE rfl rfl ?_; clear hE a; intro a hE
        refine q_nil ?_
        refine hK10 _ _ ?_
        refine wp_block ?_
        refine c_loop (fun (i : Nat) a w' => i ≤ 0 ∧ Env a 103 [(1, .pointer (some ⟨b1, 0, none⟩)), (2, .bool false), (3, v18), (4, v22), (5, .slice none 0 0), (7, .slice none 0 0), (9, .int .i64 ((i : Nat) : Int)), (13, .bool false), (70, .bool false)] ∧ Mem w [] w' [own v22 1 salt.length (bv salt), own v18 1 pass.length (bv pass), blk b1 [[v], [u], [.int .i64 z], [.int .i64 y]] [1, 1, 1, 1] 34, rd v 1 pass.length c (bv pass), rd u 1 salt.length cu (bv salt), glb 0]) (fun i => 0 - i) 0 ⟨Nat.zero_le _, hE.sel [1, 2, 3, 4, 5, 7, 9, 13, 70] rfl, hM⟩ ?_
        clear hE hM a; rintro i a w10 ⟨hi, hE, hM⟩
        refine wp_seq_k (fun K11 hK11 => ?_)
        refine wp_seq_k (fun K12 hK12 => ?_)
        refine wp_plain [true, true, true, true] rfl rfl ?_
        refine s_move hE rfl rfl ?_; clear hE a; intro a hE
        refine s_move hE rfl rfl ?_; clear hE a; intro a hE
        refine s_len hE rfl Tryd.underlying22 ⟨_, _, rfl⟩ rfl ?_; clear hE a; intro a hE
        refine s_bin hE rfl rfl bin_lss rfl ?_; clear hE a; intro a hE
        refine q_nil ?_
        replace hE : Env a 103 [(1, _), (2, _), (3, _), (4, _), (5, _), (7, _), (9, _), (13, _), (70, _), (74, _)] := hE.sel [1, 2, 3, 4, 5, 7, 9, 13, 70, 74] rfl
        refine hK12 _ _ ?_
        refine hE.split 74 rfl (fun hb74 hE' => ?_) (fun hb74 hE' => ?_)
        · replace hE := hE'; clear hE'
          replace hb74 := of_decide_eq_true hb74
          replace hb74 : i < 0 := by omega
          exact absurd hb74 (Nat.not_lt_zero _)
        · replace hE := hE'; clear hE'
          replace hb74 := of_decide_eq_false hb74
          obtain rfl : 0 = i := by omega
          refine wp_cond_false (hE.eval rfl) ?_
          refine wp_exit ?_
          refine q_then_e ?_
          refine q_then_e ?_
          refine q_block_x ?_
          refine hK9 _ _ ?_
          refine wp_seq_k (fun K13 hK13 => ?_)
          refine wp_plain [true, true, true, true, true, true, false, true, true, true, true, true] rfl rfl ?_
          refine s_move hE rfl rfl ?_; clear hE a; intro a hE
          refine s_move hE rfl rfl ?_; clear hE a; intro a hE
          refine s_fieldAddr hE rfl fo34_2 rfl ?_; clear hE a; intro a hE
          refine s_load1 hE rfl (hM.get 2 rfl) rfl one3 (by intro X h; cases h) rfl ?_; clear hE a; intro a hE
          refine s_fieldAddr hE rfl fo34_3 rfl ?_; clear hE a; intro a hE
          refine s_load1 hE rfl (hM.get 2 rfl) rfl one3 (by intro X h; cases h) rfl ?_; clear hE a; intro a hE
          refine s_call hE rfl Tryd.call21 (key_bad _ _ z y _ hbad) rfl ?_
          rintro e w11 ⟨rfl, hN⟩
          refine ⟨_, rfl, trivial, ?_⟩; clear hE a; intro a hE
          replace hM : Mem _ _ w11 [_, _, _, _, _, _] := hM.call0 hN trivial; clear hN
          refine s_move hE rfl rfl ?_; clear hE a; intro a hE
          refine s_extract hE rfl rfl rfl ?_; clear hE a; intro a hE
          refine s_extract hE rfl rfl rfl ?_; clear hE a; intro a hE
          refine s_assign hE rfl rfl ?_; clear hE a; intro a hE
          refine s_assign hE rfl rfl ?_; clear hE a; intro a hE
          refine q_nil ?_
          replace hE : Env a 103 [(1, _), (2, _), (3, _), (4, _), (5, _), (7, _), (9, _), (10, _), (13, _), (70, _), (74, _)] := hE.sel [1, 2, 3, 4, 5, 7, 9, 10, 13, 70, 74] rfl
          refine hK13 _ _ ?_
          refine wp_seq_k (fun K14 hK14 => ?_)
          refine wp_plain [true, true, true, true, true, true, false, true, true] rfl rfl ?_
          refine s_move hE rfl rfl ?_; clear hE a; intro a hE
          refine s_toStr hE rfl Tryd.underlying22 Tryd.underlying5 Tryd.underlying9 (rd_nil _) (by intro X h; first | (cases h; done) | (cases h; simp [rd, rdB])) rfl ?_; clear hE a; intro a hE
          refine s_move hE rfl rfl ?_; clear hE a; intro a hE
          refine s_toStr hE rfl Tryd.underlying22 Tryd.underlying5 Tryd.underlying9 (rd_nil _) (by intro X h; first | (cases h; done) | (cases h; simp [rd, rdB])) rfl ?_; clear hE a; intro a hE
          refine s_bin hE rfl rfl bins_str.1 rfl ?_; clear hE a; intro a hE
          refine s_move hE rfl rfl ?_; clear hE a; intro a hE
          replace hE := hE.cast 100 rfl (show _ = Value.bool true from (congrArg Value.bool (by first | exact decide_eq_true (by omega) | (rw [decide_eq_true (by omega)]; rfl) | (rw [decide_eq_false (by omega)]; rfl) | rfl | decide | (simp; done) | (simp; omega) | (simp [*]; done))))
          refine g_yes hE rfl rfl ?_
          refine s_call hE rfl Tryd.call15 (awake_c _ (hM.get 5 rfl)) rfl ?_
          rintro e w12 ⟨rfl, hN⟩
          refine ⟨_, rfl, trivial, ?_⟩; clear hE a; intro a hE
          replace hM : Mem _ _ w12 [_, _, _, _, _, _] := hM.call0 hN trivial; clear hN
          refine s_pickt hE rfl rfl rfl ?_; clear hE a; intro a hE
          refine s_assign hE rfl rfl ?_; clear hE a; intro a hE
          refine q_nil ?_
          replace hE : Env a 103 [(1, _), (2, _), (3, _), (4, _), (5, _), (7, _), (9, _), (13, _), (70, _), (74, _)] := hE.sel [1, 2, 3, 4, 5, 7, 9, 13, 70, 74] rfl
          refine hK14 _ _ ?_
          refine wp_ret ?_
          refine f_ret1 hE rfl rfl ?_
          exact ⟨rfl, hM.nil⟩
      refine o_or rfl ?_ ?_
      · refine s_buildSlice (xs := []) ([]) hE hM sl22 rfl rfl rfl (by intro v hv; cases hv) rfl rfl rfl rfl ?_; clear hE a; intro a v19 w5 hE hM'
        clear hM; have hM := hM'; clear hM'
        replace hM := hM.ownEq (m' := ([] : List UInt8).length) (cs' := bv ([] : List UInt8)) rfl rfl
        refine q_nil (q_nx ?_)
        refine o_re ?_
        refine o_leaf rfl rfl ?_
        replace hM : Mem _ _ w5 [_, _, _, _, _, _] := hM.pick [1, 0, 2, 3, 4, 5] rfl
        refine s_append hE rfl rfl hM sl22 (Src.rd Tryd.underlying22 (hM.get 3 rfl) (bv_one _)) (len47 (by first | omega | (simp; omega))) (by first | omega | (simp; omega)) (by intro X h; cases h; intro b hb; exact fun e => ((apart_of_get hM.apart (i := 0) (j := 2) rfl rfl (by decide)).1 b hb).1 (by rw [e]; exact .head _)) rfl ?_; clear hE a; intro a v18 w6 hE hM'; clear hM; have hM := hM'; clear hM'
        replace hM := Mem.ownNil (q := pass) hM rfl (by first | rfl | (simp; done))
        refine q_nil (q_ph ?_)
        replace hM : Mem _ _ w6 [_, _, _, _, _, _] := hM.pick [1, 0, 2, 3, 4, 5] rfl
        refine s_append hE rfl rfl hM sl22 (Src.rd Tryd.underlying22 (hM.get 4 rfl) (bv_one _)) (len47 (by first | omega | (simp; omega))) (by first | omega | (simp; omega)) (by intro X h; cases h; first | (simp; done) | simp [valBlocks]) rfl ?_; clear hE a; intro a v22 w7 hE hM'; clear hM; have hM := hM'; clear hM'
        replace hM := Mem.ownNil (q := salt) hM rfl (by first | rfl | (simp; done))
        refine s_assign hE rfl rfl ?_; clear hE a; intro a hE
        refine s_assign hE rfl rfl ?_; clear hE a; intro a hE
        refine q_nil ?_
        replace hE : Env a 103 [(1, _), (2, _), (3, _), (4, _), (13, _)] := hE.sel [1, 2, 3, 4, 13] rfl
        refine hK4 _ _ ?_
        refine wp_seq_k (fun K5 hK5 => ?_)
        refine wp_plain [true, true, true, true, true, true, false, true, true, true, true, true] rfl rfl ?_
        refine s_move hE rfl rfl ?_; clear hE a; intro a hE
        refine s_move hE rfl rfl ?_; clear hE a; intro a hE
        refine s_fieldAddr hE rfl fo34_2 rfl ?_; clear hE a; intro a hE
        refine s_load1 hE rfl (hM.get 2 rfl) rfl one3 (by intro X h; cases h) rfl ?_; clear hE a; intro a hE
        refine s_fieldAddr hE rfl fo34_3 rfl ?_; clear hE a; intro a hE
        refine s_load1 hE rfl (hM.get 2 rfl) rfl one3 (by intro X h; cases h) rfl ?_; clear hE a; intro a hE
        refine s_call hE rfl Tryd.call21 (key_bad _ _ z y _ hbad) rfl ?_
        rintro e w8 ⟨rfl, hN⟩
        refine ⟨_, rfl, trivial, ?_⟩; clear hE a; intro a hE
        replace hM : Mem _ _ w8 [_, _, _, _, _, _] := hM.call0 hN trivial; clear hN
        refine s_move hE rfl rfl ?_; clear hE a; intro a hE
        refine s_extract hE rfl rfl rfl ?_; clear hE a; intro a hE
        refine s_extract hE rfl rfl rfl ?_; clear hE a; intro a hE
        refine s_assign hE rfl rfl ?_; clear hE a; intro a hE
        refine s_assign hE rfl rfl ?_; clear hE a; intro a hE
        refine q_nil ?_
        replace hE : Env a 103 [(1, _), (2, _), (3, _), (4, _), (5, _), (6, _), (13, _)] := hE.sel [1, 2, 3, 4, 5, 6, 13] rfl
        refine hK5 _ _ ?_
        refine wp_seq_k (fun K6 hK6 => ?_)
        refine wp_plain [true, true, true, true, true, true, true, true, false, true, true, true, true, true] rfl rfl ?_
        refine s_fieldAddr hE rfl fo34_0 rfl ?_; clear hE a; intro a hE
        refine s_load1 hE rfl (hM.get 2 rfl) rfl one22 (by intro X h; cases h) rfl ?_; clear hE a; intro a hE
        refine s_fieldAddr hE rfl fo34_1 rfl ?_; clear hE a; intro a hE
        refine s_load1 hE rfl (hM.get 2 rfl) rfl one22 (by intro X h; cases h) rfl ?_; clear hE a; intro a hE
        refine s_fieldAddr hE rfl fo34_2 rfl ?_; clear hE a; intro a hE
        refine s_load1 hE rfl (hM.get 2 rfl) rfl one3 (by intro X h; cases h) rfl ?_; clear hE a; intro a hE
        refine s_fieldAddr hE rfl fo34_3 rfl ?_; clear hE a; intro a hE
        refine s_load1 hE rfl (hM.get 2 rfl) rfl one3 (by intro X h; cases h) rfl ?_; clear hE a; intro a hE
        refine s_call hE rfl Tryd.call30 (rkey_bad _ _ z y _ hbad) rfl ?_
        rintro e w9 ⟨rfl, hN⟩
        refine ⟨_, rfl, trivial, ?_⟩; clear hE a; intro a hE
        replace hM : Mem _ _ w9 [_, _, _, _, _, _] := hM.call0 hN trivial; clear hN
        refine s_move hE rfl rfl ?_; clear hE a; intro a hE
        refine s_extract hE rfl rfl rfl ?_; clear hE a; intro a hE
        refine s_extract hE rfl rfl rfl ?_; clear hE a; intro a hE
        refine s_assign hE rfl rfl ?_; clear hE a; intro a hE
        refine s_assign hE rfl rfl ?_; clear hE a; intro a hE
        refine q_nil ?_
        replace hE : Env a 103 [(1, _), (2, _), (3, _), (4, _), (5, _), (6, _), (7, _), (8, _), (13, _)] := hE.sel [1, 2, 3, 4, 5, 6, 7, 8, 13] rfl
        refine hK6 _ _ ?_
        refine wp_seq_k (fun K7 hK7 => ?_)
        refine wp_seq_k (fun K8 hK8 => ?_)
        refine wp_plain [true, true, true, true, true, true, true, true, true, true, true, true, true, true, true, true, true, true, true, true, true, true, true, true, true, true] rfl rfl ?_
        refine s_move hE rfl rfl ?_; clear hE a; intro a hE
        refine s_toStr hE rfl Tryd.underlying22 Tryd.underlying5 Tryd.underlying9 (rd_nil _) (by intro X h; first | (cases h; done) | (cases h; simp [rd, rdB])) rfl ?_; clear hE a; intro a hE
        refine s_move hE rfl rfl ?_; clear hE a; intro a hE
        refine s_toStr hE rfl Tryd.underlying22 Tryd.underlying5 Tryd.underlying9 (rd_nil _) (by intro X h; first | (cases h; done) | (cases h; simp [rd, rdB])) rfl ?_; clear hE a; intro a hE
        refine s_bin hE rfl rfl bins_str.2 rfl ?_; clear hE a; intro a hE
        refine s_move hE rfl rfl ?_; clear hE a; intro a hE
        replace hE := hE.cast 50 rfl (show _ = Value.bool false from (congrArg Value.bool (by first | exact decide_eq_false (by omega) | (rw [decide_eq_true (by omega)]; rfl) | (rw [decide_eq_false (by omega)]; rfl) | rfl | decide | (simp; done) | (simp; omega) | (simp [*]; done))))
        refine g_yes hE rfl rfl ?_
        refine s_move hE rfl rfl ?_; clear hE a; intro a hE
        refine g_yes hE rfl rfl ?_
        refine s_move hE rfl rfl ?_; clear hE a; intro a hE
        refine g_yes hE rfl rfl ?_
        refine s_bin hE rfl rfl bin_neq rfl ?_; clear hE a; intro a hE
        refine s_pickf hE rfl rfl rfl ?_; clear hE a; intro a hE
        refine s_move hE rfl rfl ?_; clear hE a; intro a hE
        replace hE := hE.cast 55 rfl (show _ = Value.bool false from (congrArg Value.bool (by first | exact decide_eq_false (by omega) | (rw [decide_eq_true (by omega)]; rfl) | (rw [decide_eq_false (by omega)]; rfl) | rfl | decide | (simp; done) | (simp; omega) | (simp [*]; done))))
        refine g_yes hE rfl rfl ?_
        refine s_move hE rfl rfl ?_; clear hE a; intro a hE
        refine g_yes hE rfl rfl ?_
        obtain ⟨cs57, hs57⟩ := own_rd (hM.get 1 rfl)
        refine s_toStr hE rfl Tryd.underlying22 Tryd.underlying5 Tryd.underlying9 hs57 (by intro X h; cases h) rfl ?_; clear hE a; intro a hE
        refine g_yes hE rfl rfl ?_
        refine s_fieldAddr hE rfl fo34_0 rfl ?_; clear hE a; intro a hE
        refine g_yes hE rfl rfl ?_
        refine s_load1 hE rfl (hM.get 2 rfl) rfl one22 (by intro X h; cases h) rfl ?_; clear hE a; intro a hE
        refine g_yes hE rfl rfl ?_
        refine s_toStr hE rfl Tryd.underlying22 Tryd.underlying5 Tryd.underlying9 (hM.get 3 rfl) (by intro X h; cases h) rfl ?_; clear hE a; intro a hE
        refine g_yes hE rfl rfl ?_
        refine s_bin hE rfl rfl bins_str.2 rfl ?_; clear hE a; intro a hE
        refine s_pickf hE rfl rfl rfl ?_; clear hE a; intro a hE
        refine s_move hE rfl rfl ?_; clear hE a; intro a hE
        replace hE := hE.cast 63 rfl (show _ = Value.bool false from (congrArg Value.bool (by first | exact decide_eq_false (by omega) | (rw [decide_eq_true (by omega)]; rfl) | (rw [decide_eq_false (by omega)]; rfl) | rfl | decide | (simp; done) | (simp; omega) | (simp [*]; done))))
        refine g_yes hE rfl rfl ?_
        refine s_move hE rfl rfl ?_; clear hE a; intro a hE
        refine g_yes hE rfl rfl ?_
        obtain ⟨cs65, hs65⟩ := own_rd (hM.get 0 rfl)
        refine s_toStr hE rfl Tryd.underlying22 Tryd.underlying5 Tryd.underlying9 hs65 (by intro X h; cases h) rfl ?_; clear hE a; intro a hE
        refine g_yes hE rfl rfl ?_
        refine s_fieldAddr hE rfl fo34_1 rfl ?_; clear hE a; intro a hE
        refine g_yes hE rfl rfl ?_
        refine s_load1 hE rfl (hM.get 2 rfl) rfl one22 (by intro X h; cases h) rfl ?_; clear hE a; intro a hE
        refine g_yes hE rfl rfl ?_
        refine s_toStr hE rfl Tryd.underlying22 Tryd.underlying5 Tryd.underlying9 (hM.get 4 rfl) (by intro X h; cases h) rfl ?_; clear hE a; intro a hE
        refine g_yes hE rfl rfl ?_
        refine s_bin hE rfl rfl bins_str.2 rfl ?_; clear hE a; intro a hE
        refine s_pickf hE rfl rfl rfl ?_; clear hE a; intro a hE
        refine q_nil ?_
        replace hE : Env a 103 [(1, _), (2, _), (3, _), (4, _), (5, _), (7, _), (13, _), (70, _)] := hE.sel [1, 2, 3, 4, 5, 7, 13, 70] rfl
        refine hK8 _ _ ?_
        replace hE := hE.cast 70 rfl (show _ = Value.bool false from (congrArg Value.bool (by first | exact decide_eq_false (by omega) | (rw [decide_eq_true (by omega)]; rfl) | (rw [decide_eq_false (by omega)]; rfl) | rfl | decide | (simp; done) | (simp; omega) | (simp [*]; done))))
        refine wp_cond_false (hE.eval rfl) ?_
        refine wp_skip ?_
        refine hK7 _ _ ?_
        refine wp_seq_k (fun K9 hK9 => ?_)
        refine wp_seq_k (fun K10 hK10 => ?_)
        refine wp_plain [true] rfl rfl ?_
        refine s_assign hE rfl rfl ?_; clear hE a; intro a hE
        refine q_nil ?_
        refine hK10 _ _ ?_
        refine wp_block ?_
        refine c_loop (fun (i : Nat) a w' => i ≤ 0 ∧ Env a 103 [(1, .pointer (some ⟨b1, 0, none⟩)), (2, .bool false), (3, v18), (4, v22), (5, .slice none 0 0), (7, .slice none 0 0), (9, .int .i64 ((i : Nat) : Int)), (13, .bool false), (70, .bool false)] ∧ Mem w [] w' [own v22 1 salt.length (bv salt), own v18 1 pass.length (bv pass), blk b1 [[v], [u], [.int .i64 z], [.int .i64 y]] [1, 1, 1, 1] 34, rd v 1 pass.length c (bv pass), rd u 1 salt.length cu (bv salt), glb 0]) (fun i => 0 - i) 0 ⟨Nat.zero_le _, hE.sel [1, 2, 3, 4, 5, 7, 9, 13, 70] rfl, hM⟩ ?_
        clear hE hM a; rintro i a w10 ⟨hi, hE, hM⟩
        refine wp_seq_k (fun K11 hK11 => ?_)
        refine wp_seq_k (fun K12 hK12 => ?_)
        refine wp_plain [true, true, true, true] rfl rfl ?_
        refine s_move hE rfl rfl ?_; clear hE a; intro a hE
        refine s_move hE rfl rfl ?_; clear hE a; intro a hE
        refine s_len hE rfl Tryd.underlying22 ⟨_, _, rfl⟩ rfl ?_; clear hE a; intro a hE
        refine s_bin hE rfl rfl bin_lss rfl ?_; clear hE a; intro a hE
        refine q_nil ?_
        replace hE : Env a 103 [(1, _), (2, _), (3, _), (4, _), (5, _), (7, _), (9, _), (13, _), (70, _), (74, _)] := hE.sel [1, 2, 3, 4, 5, 7, 9, 13, 70, 74] rfl
        refine hK12 _ _ ?_
        refine hE.split 74 rfl (fun hb74 hE' => ?_) (fun hb74 hE' => ?_)
        · replace hE := hE'; clear hE'
          replace hb74 := of_decide_eq_true hb74
          replace hb74 : i < 0 := by omega
          exact absurd hb74 (Nat.not_lt_zero _)
        · replace hE := hE'; clear hE'
          replace hb74 := of_decide_eq_false hb74
          obtain rfl : 0 = i := by omega
          refine wp_cond_false (hE.eval rfl) ?_
          refine wp_exit ?_
          refine q_then_e ?_
          refine q_then_e ?_
          refine q_block_x ?_
          refine hK9 _ _ ?_
          refine wp_seq_k (fun K13 hK13 => ?_)
          refine wp_plain [true, true, true, true, true, true, false, true, true, true, true, true] rfl rfl ?_
          refine s_move hE rfl rfl ?_; clear hE a; intro a hE
          refine s_move hE rfl rfl ?_; clear hE a; intro a hE
          refine s_fieldAddr hE rfl fo34_2 rfl ?_; clear hE a; intro a hE
          refine s_load1 hE rfl (hM.get 2 rfl) rfl one3 (by intro X h; cases h) rfl ?_; clear hE a; intro a hE
          refine s_fieldAddr hE rfl fo34_3 rfl ?_; clear hE a; intro a hE
          refine s_load1 hE rfl (hM.get 2 rfl) rfl one3 (by intro X h; cases h) rfl ?_; clear hE a; intro a hE
          refine s_call hE rfl Tryd.call21 (key_bad _ _ z y _ hbad) rfl ?_
          rintro e w11 ⟨rfl, hN⟩
          refine ⟨_, rfl, trivial, ?_⟩; clear hE a; intro a hE
          replace hM : Mem _ _ w11 [_, _, _, _, _, _] := hM.call0 hN trivial; clear hN
          refine s_move hE rfl rfl ?_; clear hE a; intro a hE
          refine s_extract hE rfl rfl rfl ?_; clear hE a; intro a hE
          refine s_extract hE rfl rfl rfl ?_; clear hE a; intro a hE
          refine s_assign hE rfl rfl ?_; clear hE a; intro a hE
          refine s_assign hE rfl rfl ?_; clear hE a; intro a hE
          refine q_nil ?_
          replace hE : Env a 103 [(1, _), (2, _), (3, _), (4, _), (5, _), (7, _), (9, _), (10, _), (13, _), (70, _), (74, _)] := hE.sel [1, 2, 3, 4, 5, 7, 9, 10, 13, 70, 74] rfl
          refine hK13 _ _ ?_
          refine wp_seq_k (fun K14 hK14 => ?_)
          refine wp_plain [true, true, true, true, true, true, false, true, true] rfl rfl ?_
          refine s_move hE rfl rfl ?_; clear hE a; intro a hE
          refine s_toStr hE rfl Tryd.underlying22 Tryd.underlying5 Tryd.underlying9 (rd_nil _) (by intro X h; first | (cases h; done) | (cases h; simp [rd, rdB])) rfl ?_; clear hE a; intro a hE
          refine s_move hE rfl rfl ?_; clear hE a; intro a hE
          refine s_toStr hE rfl Tryd.underlying22 Tryd.underlying5 Tryd.underlying9 (rd_nil _) (by intro X h; first | (cases h; done) | (cases h; simp [rd, rdB])) rfl ?_; clear hE a; intro a hE
          refine s_bin hE rfl rfl bins_str.1 rfl ?_; clear hE a; intro a hE
          refine s_move hE rfl rfl ?_; clear hE a; intro a hE
          replace hE := hE.cast 100 rfl (show _ = Value.bool true from (congrArg Value.bool (by first | exact decide_eq_true (by omega) | (rw [decide_eq_true (by omega)]; rfl) | (rw [decide_eq_false (by omega)]; rfl) | rfl | decide | (simp; done) | (simp; omega) | (simp [*]; done))))
          refine g_yes hE rfl rfl ?_
          refine s_call hE rfl Tryd.call15 (awake_c _ (hM.get 5 rfl)) rfl ?_
          rintro e w12 ⟨rfl, hN⟩
          refine ⟨_, rfl, trivial, ?_⟩; clear hE a; intro a hE
          replace hM : Mem _ _ w12 [_, _, _, _, _, _] := hM.call0 hN trivial; clear hN
          refine s_pickt hE rfl rfl rfl ?_; clear hE a; intro a hE
          refine s_assign hE rfl rfl ?_; clear hE a; intro a hE
          refine q_nil ?_
          replace hE : Env a 103 [(1, _), (2, _), (3, _), (4, _), (5, _), (7, _), (9, _), (13, _), (70, _), (74, _)] := hE.sel [1, 2, 3, 4, 5, 7, 9, 13, 70, 74] rfl
          refine hK14 _ _ ?_
          refine wp_ret ?_
          refine f_ret1 hE rfl rfl ?_
          exact ⟨rfl, hM.nil⟩
      trivial
    refine o_or rfl ?_ ?_
    · refine s_buildSlice (xs := []) ([]) hE hM sl22 rfl rfl rfl (by intro v hv; cases hv) rfl rfl rfl rfl ?_; clear hE a; intro a v19 w4 hE hM'
      clear hM; have hM := hM'; clear hM'
      replace hM := hM.ownEq (m' := ([] : List UInt8).length) (cs' := bv ([] : List UInt8)) rfl rfl
      refine q_nil (q_nx ?_)
      refine o_re ?_
      refine o_leaf rfl rfl ?_
      refine s_buildSlice (xs := []) ([]) hE hM sl22 rfl rfl rfl (by intro v hv; cases hv) rfl rfl rfl rfl ?_; clear hE a; intro a v15 w5 hE hM'
      clear hM; have hM := hM'; clear hM'
      replace hM := hM.ownEq (m' := ([] : List UInt8).length) (cs' := bv ([] : List UInt8)) rfl rfl
      refine s_append hE rfl rfl hM sl22 (Src.rd Tryd.underlying22 (hM.get 3 rfl) (bv_one _)) (len47 (by first | omega | (simp; omega))) (by first | omega | (simp; omega)) (by intro X h; cases h; intro b hb; exact fun e => ((apart_of_get hM.apart (i := 0) (j := 2) rfl rfl (by decide)).1 b hb).1 (by rw [e]; exact .head _)) rfl ?_; clear hE a; intro a v18 w6 hE hM'; clear hM; have hM := hM'; clear hM'
      replace hM := Mem.ownNil (q := pass) hM rfl (by first | rfl | (simp; done))
      refine q_nil (q_ph ?_)
      replace hM : Mem _ _ w6 [_, _, _, _, _, _] := hM.pick [1, 0, 2, 3, 4, 5] rfl
      refine s_append hE rfl rfl hM sl22 (Src.rd Tryd.underlying22 (hM.get 4 rfl) (bv_one _)) (len47 (by first | omega | (simp; omega))) (by first | omega | (simp; omega)) (by intro X h; cases h; first | (simp; done) | simp [valBlocks]) rfl ?_; clear hE a; intro a v22 w7 hE hM'; clear hM; have hM := hM'; clear hM'
      replace hM := Mem.ownNil (q := salt) hM rfl (by first | rfl | (simp; done))
      refine s_assign hE rfl rfl ?_; clear hE a; intro a hE
      refine s_assign hE rfl rfl ?_; clear hE a; intro a hE
      refine q_nil ?_
      replace hE : Env a 103 [(1, _), (2, _), (3, _), (4, _), (13, _)] := hE.sel [1, 2, 3, 4, 13] rfl
      refine hK4 _ _ ?_
      refine wp_seq_k (fun K5 hK5 => ?_)
      refine wp_plain [true, true, true, true, true, true, false, true, true, true, true, true] rfl rfl ?_
      refine s_move hE rfl rfl ?_; clear hE a; intro a hE
      refine s_move hE rfl rfl ?_; clear hE a; intro a hE
      refine s_fieldAddr hE rfl fo34_2 rfl ?_; clear hE a; intro a hE
      refine s_load1 hE rfl (hM.get 2 rfl) rfl one3 (by intro X h; cases h) rfl ?_; clear hE a; intro a hE
      refine s_fieldAddr hE rfl fo34_3 rfl ?_; clear hE a; intro a hE
      refine s_load1 hE rfl (hM.get 2 rfl) rfl one3 (by intro X h; cases h) rfl ?_; clear hE a; intro a hE
      refine s_call hE rfl Tryd.call21 (key_bad _ _ z y _ hbad) rfl ?_
      rintro e w8 ⟨rfl, hN⟩
      refine ⟨_, rfl, trivial, ?_⟩; clear hE a; intro a hE
      replace hM : Mem _ _ w8 [_, _, _, _, _, _] := hM.call0 hN trivial; clear hN
      refine s_move hE rfl rfl ?_; clear hE a; intro a hE
      refine s_extract hE rfl rfl rfl ?_; clear hE a; intro a hE
      refine s_extract hE rfl rfl rfl ?_; clear hE a; intro a hE
      refine s_assign hE rfl rfl ?_; clear hE a; intro a hE
      refine s_assign hE rfl rfl ?_; clear hE a; intro a hE
      refine q_nil ?_
      replace hE : Env a 103 [(1, _), (2, _), (3, _), (4, _), (5, _), (6, _), (13, _)] := hE.sel [1, 2, 3, 4, 5, 6, 13] rfl
      refine hK5 _ _ ?_
      refine wp_seq_k (fun K6 hK6 => ?_)
      refine wp_plain [true, true, true, true, true, true, true, true, false, true, true, true, true, true] rfl rfl ?_
      refine s_fieldAddr hE rfl fo34_0 rfl ?_; clear hE a; intro a hE
      refine s_load1 hE rfl (hM.get 2 rfl) rfl one22 (by intro X h; cases h) rfl ?_; clear hE a; intro a hE
      refine s_fieldAddr hE rfl fo34_1 rfl ?_; clear hE a; intro a hE
      refine s_load1 hE rfl (hM.get 2 rfl) rfl one22 (by intro X h; cases h) rfl ?_; clear hE a; intro a hE
      refine s_fieldAddr hE rfl fo34_2 rfl ?_; clear hE a; intro a hE
      refine s_load1 hE rfl (hM.get 2 rfl) rfl one3 (by intro X h; cases h) rfl ?_; clear hE a; intro a hE
      refine s_fieldAddr hE rfl fo34_3 rfl ?_; clear hE a; intro a hE
      refine s_load1 hE rfl (hM.get 2 rfl) rfl one3 (by intro X h; cases h) rfl ?_; clear hE a; intro a hE
      refine s_call hE rfl Tryd.call30 (rkey_bad _ _ z y _ hbad) rfl ?_
      rintro e w9 ⟨rfl, hN⟩
      refine ⟨_, rfl, trivial, ?_⟩; clear hE a; intro a hE
      replace hM : Mem _ _ w9 [_, _, _, _, _, _] := hM.call0 hN trivial; clear hN
      refine s_move hE rfl rfl ?_; clear hE a; intro a hE
      refine s_extract hE rfl rfl rfl ?_; clear hE a; intro a hE
      refine s_extract hE rfl rfl rfl ?_; clear hE a; intro a hE
      refine s_assign hE rfl rfl ?_; clear hE a; intro a hE
      refine s_assign hE rfl rfl ?_; clear hE a; intro a hE
      refine q_nil ?_
      replace hE : Env a 103 [(1, _), (2, _), (3, _), (4, _), (5, _), (6, _), (7, _), (8, _), (13, _)] := hE.sel [1, 2, 3, 4, 5, 6, 7, 8, 13] rfl
      refine hK6 _ _ ?_
      refine wp_seq_k (fun K7 hK7 => ?_)
      refine wp_seq_k (fun K8 hK8 => ?_)
      refine wp_plain [true, true, true, true, true, true, true, true, true, true, true, true, true, true, true, true, true, true, true, true, true, true, true, true, true, true] rfl rfl ?_
      refine s_move hE rfl rfl ?_; clear hE a; intro a hE
      refine s_toStr hE rfl Tryd.underlying22 Tryd.underlying5 Tryd.underlying9 (rd_nil _) (by intro X h; first | (cases h; done) | (cases h; simp [rd, rdB])) rfl ?_; clear hE a; intro a hE
      refine s_move hE rfl rfl ?_; clear hE a; intro a hE
      refine s_toStr hE rfl Tryd.underlying22 Tryd.underlying5 Tryd.underlying9 (rd_nil _) (by intro X h; first | (cases h; done) | (cases h; simp [rd, rdB])) rfl ?_; clear hE a; intro a hE
      refine s_bin hE rfl rfl bins_str.2 rfl ?_; clear hE a; intro a hE
      refine s_move hE rfl rfl ?_; clear hE a; intro a hE
      replace hE := hE.cast 50 rfl (show _ = Value.bool false from (congrArg Value.bool (by first | exact decide_eq_false (by omega) | (rw [decide_eq_true (by omega)]; rfl) | (rw [decide_eq_false (by omega)]; rfl) | rfl | decide | (simp; done) | (simp; omega) | (simp [*]; done))))
      refine g_yes hE rfl rfl ?_
      refine s_move hE rfl rfl ?_; clear hE a; intro a hE
      refine g_yes hE rfl rfl ?_
      refine s_move hE rfl rfl ?_; clear hE a; intro a hE
      refine g_yes hE rfl rfl ?_
      refine s_bin hE rfl rfl bin_neq rfl ?_; clear hE a; intro a hE
      refine s_pickf hE rfl rfl rfl ?_; clear hE a; intro a hE
      refine s_move hE rfl rfl ?_; clear hE a; intro a hE
      replace hE := hE.cast 55 rfl (show _ = Value.bool false from (congrArg Value.bool (by first | exact decide_eq_false (by omega) | (rw [decide_eq_true (by omega)]; rfl) | (rw [decide_eq_false (by omega)]; rfl) | rfl | decide | (simp; done) | (simp; omega) | (simp [*]; done))))
      refine g_yes hE rfl rfl ?_
      refine s_move hE rfl rfl ?_; clear hE a; intro a hE
      refine g_yes hE rfl rfl ?_
      obtain ⟨cs57, hs57⟩ := own_rd (hM.get 1 rfl)
      refine s_toStr hE rfl Tryd.underlying22 Tryd.underlying5 Tryd.underlying9 hs57 (by intro X h; cases h) rfl ?_; clear hE a; intro a hE
      refine g_yes hE rfl rfl ?_
      refine s_fieldAddr hE rfl fo34_0 rfl ?_; clear hE a; intro a hE
      refine g_yes hE rfl rfl ?_
      refine s_load1 hE rfl (hM.get 2 rfl) rfl one22 (by intro X h; cases h) rfl ?_; clear hE a; intro a hE
      refine g_yes hE rfl rfl ?_
      refine s_toStr hE rfl Tryd.underlying22 Tryd.underlying5 Tryd.underlying9 (hM.get 3 rfl) (by intro X h; cases h) rfl ?_; clear hE a; intro a hE
      refine g_yes hE rfl rfl ?_
      refine s_bin hE rfl rfl bins_str.2 rfl ?_; clear hE a; intro a hE
      refine s_pickf hE rfl rfl rfl ?_; clear hE a; intro a hE
      refine s_move hE rfl rfl ?_; clear hE a; intro a hE
      replace hE := hE.cast 63 rfl (show _ = Value.bool false from (congrArg Value.bool (by first | exact decide_eq_false (by omega) | (rw [decide_eq_true (by omega)]; rfl) | (rw [decide_eq_false (by omega)]; rfl) | rfl | decide | (simp; done) | (simp; omega) | (simp [*]; done))))
      refine g_yes hE rfl rfl ?_
      refine s_move hE rfl rfl ?_; clear hE a; intro a hE
      refine g_yes hE rfl rfl ?_
      obtain ⟨cs65, hs65⟩ := own_rd (hM.get 0 rfl)
      refine s_toStr hE rfl Tryd.underlying22 Tryd.underlying5 Tryd.underlying9 hs65 (by intro X h; cases h) rfl ?_; clear hE a; intro a hE
      refine g_yes hE rfl rfl ?_
      refine s_fieldAddr hE rfl fo34_1 rfl ?_; clear hE a; intro a hE
      refine g_yes hE rfl rfl ?_
      refine s_load1 hE rfl (hM.get 2 rfl) rfl one22 (by intro X h; cases h) rfl ?_; clear hE a; intro a hE
      refine g_yes hE rfl rfl ?_
      refine s_toStr hE rfl Tryd.underlying22 Tryd.underlying5 Tryd.underlying9 (hM.get 4 rfl) (by intro X h; cases h) rfl ?_; clear hE a; intro a hE
      refine g_yes hE rfl rfl ?_
      refine s_bin hE rfl rfl bins_str.2 rfl ?_; clear hE a; intro a hE
      refine s_pickf hE rfl rfl rfl ?_; clear hE a; intro a hE
      refine q_nil ?_
      replace hE : Env a 103 [(1, _), (2, _), (3, _), (4, _), (5, _), (7, _), (13, _), (70, _)] := hE.sel [1, 2, 3, 4, 5, 7, 13, 70] rfl
      refine hK8 _ _ ?_
      replace hE := hE.cast 70 rfl (show _ = Value.bool false from (congrArg Value.bool (by first | exact decide_eq_false (by omega) | (rw [decide_eq_true (by omega)]; rfl) | (rw [decide_eq_false (by omega)]; rfl) | rfl | decide | (simp; done) | (simp; omega) | (simp [*]; done))))
      refine wp_cond_false (hE.eval rfl) ?_
      refine wp_skip ?_
      refine hK7 _ _ ?_
      refine wp_seq_k (fun K9 hK9 => ?_)
      refine wp_seq_k (fun K10 hK10 => ?_)
      refine wp_plain [true] rfl rfl ?_
      refine s_assign hE rfl rfl ?_; clear hE a; intro a hE
      refine q_nil ?_
      refine hK10 _ _ ?_
      refine wp_block ?_
      refine c_loop (fun (i : Nat) a w' => i ≤ 0 ∧ Env a 103 [(1, .pointer (some ⟨b1, 0, none⟩)), (2, .bool false), (3, v18), (4, v22), (5, .slice none 0 0), (7, .slice none 0 0), (9, .int .i64 ((i : Nat) : Int)), (13, .bool false), (70, .bool false)] ∧ Mem w [] w' [own v22 1 salt.length (bv salt), own v18 1 pass.length (bv pass), blk b1 [[v], [u], [.int .i64 z], [.int .i64 y]] [1, 1, 1, 1] 34, rd v 1 pass.length c (bv pass), rd u 1 salt.length cu (bv salt), glb 0]) (fun i => 0 - i) 0 ⟨Nat.zero_le _, hE.sel [1, 2, 3, 4, 5, 7, 9, 13, 70] rfl, hM⟩ ?_
      clear hE hM a; rintro i a w10 ⟨hi, hE, hM⟩
      refine wp_seq_k (fun K11 hK11 => ?_)
      refine wp_seq_k (fun K12 hK12 => ?_)
      refine wp_plain [true, true, true, true] rfl rfl ?_
      refine s_move hE rfl rfl ?_; clear hE a; intro a hE
      refine s_move hE rfl rfl ?_; clear hE a; intro a hE
      refine s_len hE rfl Tryd.underlying22 ⟨_, _, rfl⟩ rfl ?_; clear hE a; intro a hE
      refine s_bin hE rfl rfl bin_lss rfl ?_; clear hE a; intro a hE
      refine q_nil ?_
      replace hE : Env a 103 [(1, _), (2, _), (3, _), (4, _), (5, _), (7, _), (9, _), (13, _), (70, _), (74, _)] := hE.sel [1, 2, 3, 4, 5, 7, 9, 13, 70, 74] rfl
      refine hK12 _ _ ?_
      refine hE.split 74 rfl (fun hb74 hE' => ?_) (fun hb74 hE' => ?_)
      · replace hE := hE'; clear hE'
        replace hb74 := of_decide_eq_true hb74
        replace hb74 : i < 0 := by omega
        exact absurd hb74 (Nat.not_lt_zero _)
      · replace hE := hE'; clear hE'
        replace hb74 := of_decide_eq_false hb74
        obtain rfl : 0 = i := by omega
        refine wp_cond_false (hE.eval rfl) ?_
        refine wp_exit ?_
        refine q_then_e ?_
        refine q_then_e ?_
        refine q_block_x ?_
        refine hK9 _ _ ?_
        refine wp_seq_k (fun K13 hK13 => ?_)
        refine wp_plain [true, true, true, true, true, true, false, true, true, true, true, true] rfl rfl ?_
        refine s_move hE rfl rfl ?_; clear hE a; intro a hE
        refine s_move hE rfl rfl ?_; clear hE a; intro a hE
        refine s_fieldAddr hE rfl fo34_2 rfl ?_; clear hE a; intro a hE
        refine s_load1 hE rfl (hM.get 2 rfl) rfl one3 (by intro X h; cases h) rfl ?_; clear hE a; intro a hE
        refine s_fieldAddr hE rfl fo34_3 rfl ?_; clear hE a; intro a hE
        refine s_load1 hE rfl (hM.get 2 rfl) rfl one3 (by intro X h; cases h) rfl ?_; clear hE a; intro a hE
        refine s_call hE rfl Tryd.call21 (key_bad _ _ z y _ hbad) rfl ?_
        rintro e w11 ⟨rfl, hN⟩
        refine ⟨_, rfl, trivial, ?_⟩; clear hE a; intro a hE
        replace hM : Mem _ _ w11 [_, _, _, _, _, _] := hM.call0 hN trivial; clear hN
        refine s_move hE rfl rfl ?_; clear hE a; intro a hE
        refine s_extract hE rfl rfl rfl ?_; clear hE a; intro a hE
        refine s_extract hE rfl rfl rfl ?_; clear hE a; intro a hE
        refine s_assign hE rfl rfl ?_; clear hE a; intro a hE
        refine s_assign hE rfl rfl ?_; clear hE a; intro a hE
        refine q_nil ?_
        replace hE : Env a 103 [(1, _), (2, _), (3, _), (4, _), (5, _), (7, _), (9, _), (10, _), (13, _), (70, _), (74, _)] := hE.sel [1, 2, 3, 4, 5, 7, 9, 10, 13, 70, 74] rfl
        refine hK13 _ _ ?_
        refine wp_seq_k (fun K14 hK14 => ?_)
        refine wp_plain [true, true, true, true, true, true, false, true, true] rfl rfl ?_
        refine s_move hE rfl rfl ?_; clear hE a; intro a hE
        refine s_toStr hE rfl Tryd.underlying22 Tryd.underlying5 Tryd.underlying9 (rd_nil _) (by intro X h; first | (cases h; done) | (cases h; simp [rd, rdB])) rfl ?_; clear hE a; intro a hE
        refine s_move hE rfl rfl ?_; clear hE a; intro a hE
        refine s_toStr hE rfl Tryd.underlying22 Tryd.underlying5 Tryd.underlying9 (rd_nil _) (by intro X h; first | (cases h; done) | (cases h; simp [rd, rdB])) rfl ?_; clear hE a; intro a hE
        refine s_bin hE rfl rfl bins_str.1 rfl ?_; clear hE a; intro a hE
        refine s_move hE rfl rfl ?_; clear hE a; intro a hE
        replace hE := hE.cast 100 rfl (show _ = Value.bool true from (congrArg Value.bool (by first | exact decide_eq_true (by omega) | (rw [decide_eq_true (by omega)]; rfl) | (rw [decide_eq_false (by omega)]; rfl) | rfl | decide | (simp; done) | (simp; omega) | (simp [*]; done))))
        refine g_yes hE rfl rfl ?_
        refine s_call hE rfl Tryd.call15 (awake_c _ (hM.get 5 rfl)) rfl ?_
        rintro e w12 ⟨rfl, hN⟩
        refine ⟨_, rfl, trivial, ?_⟩; clear hE a; intro a hE
        replace hM : Mem _ _ w12 [_, _, _, _, _, _] := hM.call0 hN trivial; clear hN
        refine s_pickt hE rfl rfl rfl ?_; clear hE a; intro a hE
        refine s_assign hE rfl rfl ?_; clear hE a; intro a hE
        refine q_nil ?_
        replace hE : Env a 103 [(1, _), (2, _), (3, _), (4, _), (5, _), (7, _), (9, _), (13, _), (70, _), (74, _)] := hE.sel [1, 2, 3, 4, 5, 7, 9, 13, 70, 74] rfl
        refine hK14 _ _ ?_
        refine wp_ret ?_
        refine f_ret1 hE rfl rfl ?_
        exact ⟨rfl, hM.nil⟩
    trivial
theorem pbkdfKeys_c (v u : Value) (pass salt : List UInt8) (c cu : Nat) (z y : Int) (w : World) (hG : (glb 0).holds w) (hr : (rd v 1 pass.length c (bv pass)).holds w) (hu : (rd u 1 salt.length cu (bv salt)).holds w) : Calls Tryd.prog 10 #[.agg #[v, u, .int .i64 z, .int .i64 y]] w fun e w' => e = .returned (.bool true) ∧ Mem w [] w' [] := by
  by_cases h : z < 1 ∨ 4096 < z ∨ y < 1 ∨ 128 < y
  · exact keysBad_c v u pass salt c cu z y w hG hr hu h
  · obtain ⟨r, rfl⟩ := Int.eq_ofNat_of_zero_le (show 0 ≤ z by omega)
    obtain ⟨s, rfl⟩ := Int.eq_ofNat_of_zero_le (show 0 ≤ y by omega)
    exact keysOk_c v u pass salt c cu r s w hG hr hu (by omega) (by omega) (by omega) (by omega)
set_option maxRecDepth 100000 in
theorem pbkdfKeys_lifted (os : Os) (started : os.Started) (H : Type) (enc : TypeId × Value → H) :
    ReturnsInHanded {} Tryd.checked os 10 .any (fun w args => (Rows.pbkdfKeysSpec.pre enc Tryd.prog Tryd.f10 [] false w args ∧ laidMetH Tryd.prog Rows.pbkdfKeysRow.laid w) ∧ sizedMet enc Tryd.prog Tryd.f10 (OpenSpec.ofChange Rows.pbkdfKeysSpec) false w args) (Rows.pbkdfKeysSpec.post enc Tryd.prog Tryd.f10 false true false false) := by
  refine law_liftedL (C := Tryd.checked) (fn := Tryd.f10) (l := Rows.pbkdfKeysRow.laid) (by kernel_rfl) started (by kernel_rfl) Tryd.func10 rfl (fun ds hl => ?_) rfl Tryd.underlying4 (by kernel_rfl) (of_decide_eq_true (by kernel_rfl)) (by kernel_rfl)
    (ChangeSpec.witness_shaped (enc := enc) (C := Tryd.checked) (os := os) (X := fun w _ => laidMetH Tryd.prog Rows.pbkdfKeysRow.laid w) false (World.laidAll Tryd.prog os Rows.pbkdfKeysRow.laid) #[.agg #[.slice none 0 0, .slice none 0 0, .int .i64 0, .int .i64 0]] 8 (World.laidAll_os _ _ _) (World.shaped_of_ZipB (by kernel_rfl) (by kernel_rfl)) (by kernel_rfl) (by kernel_rfl) (by kernel_rfl) (by rw [MakeChecks.laidMetH_plain _ _ _ (by kernel_rfl)]; exact laidMet_laidAll _ (by kernel_rfl) (by kernel_rfl))) ?_
  · rw [Tryd.params10] at hl
    match ds, hl with
    | [_], _ => rfl
  · intro W base args ds ps hval hA hw hL
    have hG := glb_of_laid (P := Tryd.prog) (g := 0) (t := 98) (e := 74) (by kernel_rfl) (by kernel_rfl) Tryd.underlying98 Tryd.underlying74 (by kernel_rfl) (by kernel_rfl) (by kernel_rfl) (show laidMet Tryd.prog (_ :: _) W from hL)
    rw [Tryd.params10] at hA hval hw
    obtain ⟨v0, vs0, d0, ds0, p0, q0, hargs, rfl, rfl, h0, r0⟩ := trodAll_cons hA
    obtain ⟨rfl, rfl, rfl⟩ := trodAll_nil r0
    obtain rfl : args = #[v0] := by cases args; simp_all
    obtain ⟨cs0, rfl, hcs0⟩ := okWide_struct Tryd.underlying34 (hval 0 34 v0 rfl rfl)
    obtain ⟨hl0, hp0⟩ := trod_of (dec_structL (t := 34) (s := 4) [(22, 0, 1, _), (22, 1, 1, _), (3, 2, 1, _), (3, 3, 1, _)] Tryd.underlying34 (by kernel_rfl) (by kernel_rfl) (by
      intro p hp; simp only [List.mem_cons, List.not_mem_nil, or_false] at hp
      rcases hp with rfl | rfl | rfl | rfl
      · exact dec_bytes Tryd.underlying22 Tryd.underlying5 (by kernel_rfl) (by kernel_rfl)
      · exact dec_bytes Tryd.underlying22 Tryd.underlying5 (by kernel_rfl) (by kernel_rfl)
      · exact dec_int Tryd.underlying3
      · exact dec_int Tryd.underlying3)) h0 (fun m hm => hw m (by simp only [DataW.weightsEach, List.mem_append]; exact .inl hm))
    obtain ⟨qa, qb, qc, qd, hc0⟩ := len4v hl0
    rw [hc0] at hp0
    obtain ⟨va, ba, ca, hva, hra, hba⟩ := hp0 _ (.head _)
    obtain ⟨vb, bb, cb, hvb, hrb, hbb⟩ := hp0 _ (.tail _ (.head _))
    obtain ⟨z, hz, hz0, hz1⟩ := hp0 _ (.tail _ (.tail _ (.head _)))
    obtain ⟨y, hy, hy0, hy1⟩ := hp0 _ (.tail _ (.tail _ (.tail _ (.head _))))
    simp only [List.drop_zero, List.drop_succ_cons, List.take_succ_cons, List.take_zero, List.cons.injEq, and_true] at hva hvb hz hy
    subst hva hvb hz hy
    have ecs0 := agg_of hc0
    subst ecs0
    exact pbkdfKeys_c qa qb ba bb ca cb z y W hG hra hrb

/-- The row's statement. -/
theorem pbkdfKeys_row : Rows.PbkdfKeysSaid :=
  OpenClaim.holds_of_wide 10 Tryd.f10 rfl rfl rfl rfl rfl rfl rfl ⟨rfl, rfl, rfl, rfl, rfl⟩ rfl rfl rfl rfl rfl (by kernel_rfl) Tryd.func10 (by kernel_rfl)
    (of_decide_eq_true (by kernel_rfl)) (by unfold Func.isWrapper; first | (rw [if_pos (by decide +kernel)]; kernel_rfl) | (rw [if_neg (by decide +kernel)]; exact ⟨rfl, rfl⟩))
    (fun os started H enc _ => pbkdfKeys_lifted os started H enc)

/-- The statement: the row, its listed variable tied to the program's text. -/
theorem pbkdfKeys_holds : Rows.PbkdfKeysCardSaid :=
  Claim7.holds_tied_plain_at .later [] [.data] true (true, "6fc7720c1af2613af465590a04043e064699da455281c70e9b23793a063f4041") false
    pbkdfKeys_row (fun _ h => by cases h) (by kernel_rfl) (fun _ h => by cases h) pbkdfKeys_row_tie rfl ⟨rfl, rfl⟩ (by kernel_rfl) rfl
    (fun f fn hf hfn => by
      obtain rfl : f = 10 := Option.some.inj ((show Tryd.prog.funcNamed "casemate/casematelaw05.PbkdfKeys" = some 10 by kernel_rfl).symm.trans hf) |>.symm
      obtain rfl : fn = Tryd.f10 := (Option.some.inj (Tryd.func10.symm.trans hfn)).symm
      exact ⟨by kernel_rfl, fun j t ht => by
        rw [Tryd.params10] at ht
        have h : t ∈ [34] := by
          rcases j with _ | j
          · simp at ht; simp [ht]
          · simp at ht
        simp only [List.mem_cons, List.not_mem_nil, or_false] at h
        rcases h with rfl
        · exact (show Tryd.prog.wantsStandIn 34 = false by kernel_rfl)⟩)
    (by kernel_rfl)
#print axioms pbkdfKeys_holds
end Go.Proofs.YthagednepehliaaDoor
