/- HmacKnown of casematelaw04 returns true. No condition. -/
import Derived.Test.YtcmikkfekmmheaaDoorLh
import Derived.Test.YtcmikkfekmmheaaDoorTie
import Derived.Test.YtcmikkfekmmheaaDoorCards
namespace Go.Proofs.YtcmikkfekmmheaaDoor
open Go Go.Kx
open Go.ChangeShapes Go.WideShapes Go.ChangeAt Go.RowKit

theorem hexD_get {j : Nat} (h : j < 16) : hexD[j]? = some (hexD.getD j 0) := by
  have : j < hexD.length := h
  simp [List.getD, this]
theorem text_c (v : Value) (bs : List UInt8) (c : Nat) (w : World) (hr : (rd v 1 bs.length c (bv bs)).holds w) (hb : bs.length ≤ 1000000) : Calls Tryd.prog 23 #[v] w fun e w' => e = .returned (.string (str (hexL bs))) ∧ Mem w [] w' [] := by
  have hM := Mem.startR1 hr rfl
  refine f_enter 31 Tryd.func23 rfl rfl rfl ?_
  intro a hE
  replace hE : Env a 31 [(0, _)] := hE
  refine wp_seq_k (fun K1 hK1 => ?_)
  refine wp_plain [true] rfl rfl ?_
  refine s_assign hE rfl rfl ?_; clear hE a; intro a hE
  refine q_nil ?_
  refine hK1 _ _ ?_
  refine wp_seq_k (fun K2 hK2 => ?_)
  refine wp_plain [true] rfl rfl ?_
  refine s_assign hE rfl rfl ?_; clear hE a; intro a hE
  refine q_nil ?_
  refine hK2 _ _ ?_
  refine wp_seq_k (fun K3 hK3 => ?_)
  refine wp_plain [true] rfl rfl ?_
  refine s_assign hE rfl rfl ?_; clear hE a; intro a hE
  replace hM := hM.addNil 1
  refine q_nil ?_
  refine hK3 _ _ ?_
  refine wp_seq_k (fun K4 hK4 => ?_)
  refine wp_seq_k (fun K5 hK5 => ?_)
  refine wp_plain [true] rfl rfl ?_
  refine s_assign hE rfl rfl ?_; clear hE a; intro a hE
  refine q_nil ?_
  refine hK5 _ _ ?_
  refine wp_block ?_
  refine c_loop (fun (i : Nat) a w' => i ≤ bs.length ∧ ∃ vo, Env a 31 [(0, v), (3, _), (4, vo), (5, .int .i64 (i : Int))] ∧ Mem w [] w' [own vo 1 (hexL (bs.take i)).length (bv (hexL (bs.take i))), rd v 1 bs.length c (bv bs)]) (fun i => bs.length - i) 0 ⟨Nat.zero_le _, _, hE.sel [0, 3, 4, 5] rfl, hM⟩ ?_
  clear hE hM a; rintro i a w1 ⟨hi, vo, hE, hM⟩
  refine wp_seq_k (fun K6 hK6 => ?_)
  refine wp_seq_k (fun K7 hK7 => ?_)
  refine wp_plain [true, true, true, true] rfl rfl ?_
  refine s_move hE rfl rfl ?_; clear hE a; intro a hE
  refine s_move hE rfl rfl ?_; clear hE a; intro a hE
  refine s_len hE rfl Tryd.underlying26 (rd_slice (hM.get 1 rfl)) rfl ?_; clear hE a; intro a hE
  refine s_bin hE rfl rfl bin_lss rfl ?_; clear hE a; intro a hE
  refine q_nil ?_
  replace hE : Env a 31 [(0, _), (3, _), (4, _), (5, _), (9, _)] := hE.sel [0, 3, 4, 5, 9] rfl
  refine hK7 _ _ ?_
  refine hE.split 9 rfl (fun hb9 hE' => ?_) (fun hb9 hE' => ?_)
  · replace hE := hE'; clear hE'
    replace hb9 := of_decide_eq_true hb9
    replace hb9 : i < bs.length := by omega
    have hu := (bs.getD i 0).toNat_lt
    refine wp_cond_true (hE.eval rfl) ?_
    refine wp_skip ?_
    refine hK6 _ _ ?_
    refine wp_seq_k (fun K8 hK8 => ?_)
    refine wp_block ?_
    refine wp_drawnM2 hM (by kernel_rfl) (fun _ => False) (fun _ => True) [(0, true), (1, true), (2, true), (3, true), (4, true), (5, true), (6, true), (7, true), (8, true), (9, true), (10, true), (11, true), (12, true), (13, true), (14, true), (15, false)] [(16, false), (17, true)] [(15, [(16, 15), (17, 15)]), (16, [(17, 16)]), (4, [(5, 4), (6, 5), (7, 6), (15, 7), (16, 15), (17, 4)]), (5, [(6, 5), (7, 6), (15, 7), (16, 15), (17, 5)]), (6, [(7, 6), (15, 7), (16, 15), (17, 6)]), (7, [(15, 7), (16, 15), (17, 7)]), (11, [(12, 11), (13, 12), (14, 13), (15, 14), (16, 15), (17, 11)]), (12, [(13, 12), (14, 13), (15, 14), (16, 15), (17, 12)]), (13, [(14, 13), (15, 14), (16, 15), (17, 13)]), (14, [(15, 14), (16, 15), (17, 14)])] (by kernel_rfl) (by kernel_rfl) rfl rfl ?_
    intro w2 hM' hww2; clear hM; have hM := hM'; clear hM'
    refine s_move hE rfl rfl ?_; clear hE a; intro a hE
    refine s_move hE rfl rfl ?_; clear hE a; intro a hE
    refine s_move hE rfl rfl ?_; clear hE a; intro a hE
    refine s_move hE rfl rfl ?_; clear hE a; intro a hE
    refine s_indexRd (j := i) hE rfl (hM.get 1 rfl) rfl slt26 (by first | rfl | omega) (by first | omega | decide) rfl ?_; clear hE a; intro a p16 hE hc16 hp16
    rw [bv_elem hb9] at hc16
    refine s_loadAt1 hE rfl hc16 one5 (by intro X h; cases h; simp) rfl ?_; clear hE a; intro a hE
    refine s_bin hE rfl rfl (bin_quo_nat (s := 16) (by decide) (wrap_u8_lt (by omega))) rfl ?_; clear hE a; intro a hE
    refine s_indexStr (j := ((bs.getD i 0).toNat / 16)) (l := hexD) hE rfl rfl Tryd.underlying9 (by kernel_rfl) (by first | rfl | omega) (hexD_get (by omega)) rfl ?_; clear hE a; intro a hE
    refine s_move hE rfl rfl ?_; clear hE a; intro a hE
    refine s_move hE rfl rfl ?_; clear hE a; intro a hE
    refine s_move hE rfl rfl ?_; clear hE a; intro a hE
    refine s_indexRd (j := i) hE rfl (hM.get 1 rfl) rfl slt26 (by first | rfl | omega) (by first | omega | decide) rfl ?_; clear hE a; intro a p23 hE hc23 hp23
    rw [bv_elem hb9] at hc23
    refine s_loadAt1 hE rfl hc23 one5 (by intro X h; cases h; simp) rfl ?_; clear hE a; intro a hE
    refine s_bin hE rfl rfl (bin_rem_nat (s := 16) (by decide)) rfl ?_; clear hE a; intro a hE
    refine s_indexStr (j := ((bs.getD i 0).toNat % 16)) (l := hexD) hE rfl rfl Tryd.underlying9 (by kernel_rfl) (by first | rfl | omega) (hexD_get (by omega)) rfl ?_; clear hE a; intro a hE
    refine s_buildSlice (xs := [.tmp 19, .tmp 26]) (bv [hexD.getD ((bs.getD i 0).toNat / 16) 0, hexD.getD ((bs.getD i 0).toNat % 16) 0]) hE hM sl26 rfl rfl rfl (by intro v hv; simp at hv; rcases hv with rfl | rfl <;> rfl) rfl rfl rfl rfl ?_; clear hE a; intro a v27 w3 hE hM'
    clear hM; have hM := hM'; clear hM'
    refine q_nil (q_ph ?_)
    replace hM : Mem _ _ w3 [_, _, _] := hM.pick [1, 0, 2] rfl
    obtain ⟨cy, hy⟩ := own_rd (hM.get 1 rfl)
    refine s_append hE rfl rfl hM sl26 (Src.rd Tryd.underlying26 hy (bv_one _)) (len47 (by simp; omega)) (by simp; omega) (by intro X h; cases h; first | (simp; done) | simp [valBlocks]) rfl ?_; clear hE a hy; intro a v28 w4 hE hM'
    clear hM; have hM := hM'; clear hM'
    replace hM : Mem _ _ w4 [_, _] := hM.pick [0, 2] rfl
    replace hM := hM.ownEq (m' := (hexL (bs.take (i + 1))).length) (cs' := bv (hexL (bs.take (i + 1)))) (by rw [hexL_succ hb9]; simp) (by rw [hexL_succ hb9, bv_append])
    refine s_assign hE rfl rfl ?_; clear hE a; intro a hE
    refine q_nil ?_
    replace hE : Env a 31 [(0, _), (3, _), (4, _), (5, _), (9, _)] := hE.sel [0, 3, 4, 5, 9] rfl
    refine q_block_n ?_
    refine hK8 _ _ ?_
    refine wp_plain [true, true, true] rfl rfl ?_
    refine s_move hE rfl rfl ?_; clear hE a; intro a hE
    refine s_bin hE rfl rfl (bin_add (wrap_i64 (by omega) (by omega))) rfl ?_; clear hE a; intro a hE
    refine s_assign hE rfl rfl ?_; clear hE a; intro a hE
    refine q_nil ?_
    replace hE : Env a 31 [(0, _), (3, _), (4, _), (5, _), (9, _)] := hE.sel [0, 3, 4, 5, 9] rfl
    replace hE := hE.cast 5 rfl (show _ = Value.int .i64 ((i + 1 : Nat) : Int) from congrArg _ (by omega))
    exact ⟨i + 1, ⟨by omega, _, hE.sel [0, 3, 4, 5] rfl, hM⟩, by omega⟩
  · replace hE := hE'; clear hE'
    replace hb9 := of_decide_eq_false hb9
    replace hb9 : ¬ i < bs.length := by omega
    obtain rfl : i = bs.length := by omega
    rw [List.take_length] at hM
    refine wp_cond_false (hE.eval rfl) ?_
    refine wp_exit ?_
    refine q_then_e ?_
    refine q_then_e ?_
    refine q_block_x ?_
    refine hK4 _ _ ?_
    refine wp_seq_k (fun K8 hK8 => ?_)
    refine wp_plain [true, true, true] rfl rfl ?_
    refine s_move hE rfl rfl ?_; clear hE a; intro a hE
    obtain ⟨cs30, hs30⟩ := own_rd (hM.get 0 rfl)
    refine s_toStr hE rfl Tryd.underlying26 Tryd.underlying5 Tryd.underlying9 hs30 (by intro X h; cases h) rfl ?_; clear hE a; intro a hE
    refine s_assign hE rfl rfl ?_; clear hE a; intro a hE
    refine q_nil ?_
    replace hE : Env a 31 [(0, _), (2, _), (3, _), (4, _), (5, _), (9, _)] := hE.sel [0, 2, 3, 4, 5, 9] rfl
    refine hK8 _ _ ?_
    refine wp_ret ?_
    refine f_ret1 hE rfl rfl ?_
    exact ⟨rfl, hM.nil⟩
theorem knownA : hmacW [] [] = [182, 19, 103, 154, 8, 20, 217, 236, 119, 47, 149, 215, 120, 195, 95, 197, 255, 22, 151, 196, 147, 113, 86, 83, 198, 199, 18, 20, 66, 146, 197, 173] := by decide +kernel
theorem knownC : hmacW (List.replicate 20 11) [72, 105, 32, 84, 104, 101, 114, 101] = [176, 52, 76, 97, 216, 219, 56, 83, 92, 168, 175, 206, 175, 11, 241, 43, 136, 29, 194, 0, 201, 131, 61, 167, 38, 233, 55, 108, 46, 50, 207, 247] := by decide +kernel
theorem hmacKnown_c (w : World) (hG : (glb 0).holds w) : Calls Tryd.prog 6 #[] w fun e w' => e = .returned (.bool true) ∧ Mem w [] w' [] := by
  have hM := Mem.startR1 hG rfl
  refine f_enter 81 Tryd.func6 rfl rfl rfl ?_
  intro a hE
  replace hE : Env a 81 [] := hE
  refine wp_seq_k (fun K1 hK1 => ?_)
  refine wp_plain [true] rfl rfl ?_
  refine s_assign hE rfl rfl ?_; clear hE a; intro a hE
  refine q_nil ?_
  refine hK1 _ _ ?_
  refine wp_seq_k (fun K2 hK2 => ?_)
  refine wp_plain [false, false, false] rfl rfl ?_
  refine s_call hE rfl Tryd.call19 ((by have h := of_c (.slice none 0 0) (.slice none 0 0) [] [] 0 0 _ (hM.get 0 rfl) (rd_nil _) (rd_nil _) (by decide) (by decide); rwa [knownA] at h)) rfl ?_
  rintro e w1 ⟨rfl, hN⟩
  refine ⟨_, rfl, trivial, ?_⟩; clear hE a; intro a hE
  replace hM : Mem _ _ w1 [_] := hM.call0 hN trivial; clear hN
  refine s_alloc [32] hE hM zero23 rfl rfl ?_; clear hE a; intro a b1 w2 hE hM'
  clear hM; have hM := hM'; clear hM'
  refine s_storeSeg 0 hE rfl rfl hM rfl sz23 (by decide) (bv_one _) rfl (by simp) rfl (by intro X h; cases h) ?_; intro w3 hM'; clear hM; have hM := hM'; clear hM'
  simp only [List.set_cons_zero, List.set_cons_succ] at hM
  refine q_nil ?_
  replace hE : Env a 81 [(0, _), (1, _)] := hE.sel [0, 1] rfl
  refine hK2 _ _ ?_
  refine wp_seq_k (fun K3 hK3 => ?_)
  refine wp_plain [false, false, false, false, false, false, false] rfl rfl ?_
  refine s_buildSlice (xs := [.const (.int .u8 107), .const (.int .u8 101), .const (.int .u8 121)]) (bv [107, 101, 121]) hE hM sl26 rfl rfl rfl (by intro v hv; obtain ⟨x, _, rfl⟩ := List.mem_map.1 (show v ∈ bv [107, 101, 121] from hv); rfl) rfl rfl rfl rfl ?_; clear hE a; intro a v13 w4 hE hM'
  clear hM; have hM := hM'; clear hM'
  refine s_convSame hE rfl hM Tryd.underlying26 Tryd.underlying5 (by omega) (by intro X h; cases h) rfl ?_; clear hE a; intro a w5 hE hM'; clear hM; have hM := hM'; clear hM'
  refine s_buildSlice (xs := [.const (.int .u8 84), .const (.int .u8 104), .const (.int .u8 101), .const (.int .u8 32), .const (.int .u8 113), .const (.int .u8 117), .const (.int .u8 105), .const (.int .u8 99), .const (.int .u8 107), .const (.int .u8 32), .const (.int .u8 98), .const (.int .u8 114), .const (.int .u8 111), .const (.int .u8 119), .const (.int .u8 110), .const (.int .u8 32), .const (.int .u8 102), .const (.int .u8 111), .const (.int .u8 120), .const (.int .u8 32), .const (.int .u8 106), .const (.int .u8 117), .const (.int .u8 109), .const (.int .u8 112), .const (.int .u8 115), .const (.int .u8 32), .const (.int .u8 111), .const (.int .u8 118), .const (.int .u8 101), .const (.int .u8 114), .const (.int .u8 32), .const (.int .u8 116), .const (.int .u8 104), .const (.int .u8 101), .const (.int .u8 32), .const (.int .u8 108), .const (.int .u8 97), .const (.int .u8 122), .const (.int .u8 121), .const (.int .u8 32), .const (.int .u8 100), .const (.int .u8 111), .const (.int .u8 103)]) (bv [84, 104, 101, 32, 113, 117, 105, 99, 107, 32, 98, 114, 111, 119, 110, 32, 102, 111, 120, 32, 106, 117, 109, 112, 115, 32, 111, 118, 101, 114, 32, 116, 104, 101, 32, 108, 97, 122, 121, 32, 100, 111, 103]) hE hM sl26 rfl rfl rfl (by intro v hv; obtain ⟨x, _, rfl⟩ := List.mem_map.1 (show v ∈ bv [84, 104, 101, 32, 113, 117, 105, 99, 107, 32, 98, 114, 111, 119, 110, 32, 102, 111, 120, 32, 106, 117, 109, 112, 115, 32, 111, 118, 101, 114, 32, 116, 104, 101, 32, 108, 97, 122, 121, 32, 100, 111, 103] from hv); rfl) rfl rfl rfl rfl ?_; clear hE a; intro a v15 w6 hE hM'
  clear hM; have hM := hM'; clear hM'
  refine s_convSame hE rfl hM Tryd.underlying26 Tryd.underlying5 (by omega) (by intro X h; cases h) rfl ?_; clear hE a; intro a w7 hE hM'; clear hM; have hM := hM'; clear hM'
  obtain ⟨ck, hk⟩ := own_rd (hM.get 1 rfl)
  obtain ⟨cm, hm⟩ := own_rd (hM.get 0 rfl)
  refine s_call hE rfl Tryd.call19 ((by have h := of_c _ _ [107, 101, 121] [84, 104, 101, 32, 113, 117, 105, 99, 107, 32, 98, 114, 111, 119, 110, 32, 102, 111, 120, 32, 106, 117, 109, 112, 115, 32, 111, 118, 101, 114, 32, 116, 104, 101, 32, 108, 97, 122, 121, 32, 100, 111, 103] _ _ _ (hM.get 3 rfl) hk hm (by decide) (by decide); rwa [workW] at h)) rfl ?_
  rintro e w8 ⟨rfl, hN⟩
  refine ⟨_, rfl, trivial, ?_⟩; clear hE a; intro a hE
  replace hM : Mem _ _ w8 [_, _, _, _] := hM.call0 hN trivial; clear hN
  refine s_alloc [32] hE hM zero23 rfl rfl ?_; clear hE a; intro a b2 w9 hE hM'
  clear hM; have hM := hM'; clear hM'
  refine s_storeSeg 0 hE rfl rfl hM rfl sz23 (by decide) (bv_one _) rfl (by simp) rfl (by intro X h; cases h) ?_; intro w10 hM'; clear hM; have hM := hM'; clear hM'
  simp only [List.set_cons_zero, List.set_cons_succ] at hM
  refine q_nil ?_
  replace hE : Env a 81 [(0, _), (1, _), (2, _)] := hE.sel [0, 1, 2] rfl
  refine hK3 _ _ ?_
  refine wp_seq_k (fun K4 hK4 => ?_)
  refine wp_plain [false, true] rfl rfl ?_
  refine s_makeSlice (m := 20) (zc := [bV 0]) hE rfl rfl hM sl26 ⟨.int .u8 0, by kernel_rfl, rfl⟩ rfl rfl (by decide) (by decide) (by decide) rfl ?_; clear hE a; intro a v18 w11 hE hM'; clear hM; have hM := hM'; clear hM'
  refine s_assign hE rfl rfl ?_; clear hE a; intro a hE
  refine q_nil ?_
  replace hE : Env a 81 [(0, _), (1, _), (2, _), (3, _)] := hE.sel [0, 1, 2, 3] rfl
  refine hK4 _ _ ?_
  refine wp_seq_k (fun K5 hK5 => ?_)
  refine wp_seq_k (fun K6 hK6 => ?_)
  refine wp_plain [true] rfl rfl ?_
  refine s_assign hE rfl rfl ?_; clear hE a; intro a hE
  refine q_nil ?_
  refine hK6 _ _ ?_
  refine wp_block ?_
  replace hM : Mem _ _ w11 [_, _, _, _, _, _] := hM.pick [0, 5, 4, 1, 2, 3] rfl
  replace hM : Mem _ _ w11 [_, _, _, _] := hM.pick [0, 1, 2, 3] rfl
  replace hM := hM.ownEq (m' := 20) (cs' := bv (List.replicate 0 11 ++ List.replicate (20 - 0) 0)) rfl rfl
  refine c_loop (fun (i : Nat) a w' => i ≤ 20 ∧ Env a 81 [(1, .pointer (some ⟨b1, 0, none⟩)), (2, .pointer (some ⟨b2, 0, none⟩)), (3, v18), (4, .int .i64 (i : Int))] ∧ Mem w [] w' [own v18 1 20 (bv (List.replicate i 11 ++ List.replicate (20 - i) 0)), glb 0, blk b1 [bv [182, 19, 103, 154, 8, 20, 217, 236, 119, 47, 149, 215, 120, 195, 95, 197, 255, 22, 151, 196, 147, 113, 86, 83, 198, 199, 18, 20, 66, 146, 197, 173]] [32] 23, blk b2 [bv [247, 188, 131, 244, 48, 83, 132, 36, 177, 50, 152, 230, 170, 111, 177, 67, 239, 77, 89, 161, 73, 70, 23, 89, 151, 71, 157, 188, 45, 26, 60, 216]] [32] 23]) (fun i => 20 - i) 0 ⟨Nat.zero_le _, hE.sel [1, 2, 3, 4] rfl, hM⟩ ?_
  clear hE hM a; rintro i a w12 ⟨hi, hE, hM⟩
  refine wp_seq_k (fun K7 hK7 => ?_)
  refine wp_seq_k (fun K8 hK8 => ?_)
  refine wp_plain [true, true] rfl rfl ?_
  refine s_move hE rfl rfl ?_; clear hE a; intro a hE
  refine s_bin hE rfl rfl bin_lss rfl ?_; clear hE a; intro a hE
  refine q_nil ?_
  replace hE : Env a 81 [(1, _), (2, _), (3, _), (4, _), (20, _)] := hE.sel [1, 2, 3, 4, 20] rfl
  refine hK8 _ _ ?_
  refine hE.split 20 rfl (fun hb20 hE' => ?_) (fun hb20 hE' => ?_)
  · replace hE := hE'; clear hE'
    replace hb20 := of_decide_eq_true hb20
    replace hb20 : i < 20 := by omega
    refine wp_cond_true (hE.eval rfl) ?_
    refine wp_skip ?_
    refine hK7 _ _ ?_
    refine wp_seq_k (fun K9 hK9 => ?_)
    refine wp_block ?_
    refine wp_plain [true, true, true, false] rfl rfl ?_
    refine s_move hE rfl rfl ?_; clear hE a; intro a hE
    refine s_move hE rfl rfl ?_; clear hE a; intro a hE
    refine s_indexOwn (j := i) hE rfl (hM.get 0 rfl) rfl slt26 (by first | rfl | omega) (by first | omega | decide) rfl ?_; clear hE a; intro a hE hc25
    refine s_storeOwn (vs := [bV 11]) hE rfl rfl hM rfl sz5 rfl (by intro u hu; rw [List.mem_singleton.1 hu]; rfl) (by simp; omega) (by omega) (by intro X h; cases h) ?_; intro w13 hM'; clear hM; have hM := hM'; clear hM'
    rw [bv_set (by simp; omega), fill_set hb20] at hM
    refine q_nil ?_
    replace hE : Env a 81 [(1, _), (2, _), (3, _), (4, _), (20, _)] := hE.sel [1, 2, 3, 4, 20] rfl
    refine q_block_n ?_
    refine hK9 _ _ ?_
    refine wp_plain [true, true, true] rfl rfl ?_
    refine s_move hE rfl rfl ?_; clear hE a; intro a hE
    refine s_bin hE rfl rfl (bin_add (wrap_i64 (by omega) (by omega))) rfl ?_; clear hE a; intro a hE
    refine s_assign hE rfl rfl ?_; clear hE a; intro a hE
    refine q_nil ?_
    replace hE : Env a 81 [(1, _), (2, _), (3, _), (4, _), (20, _)] := hE.sel [1, 2, 3, 4, 20] rfl
    replace hE := hE.cast 4 rfl (show _ = Value.int .i64 ((i + 1 : Nat) : Int) from congrArg _ (by omega))
    exact ⟨i + 1, ⟨by omega, hE.sel [1, 2, 3, 4] rfl, hM⟩, by omega⟩
  · replace hE := hE'; clear hE'
    replace hb20 := of_decide_eq_false hb20
    replace hb20 : ¬ i < 20 := by omega
    obtain rfl : i = 20 := by omega
    replace hM := hM.ownEq (m' := (List.replicate 20 (11 : UInt8)).length) (cs' := bv (List.replicate 20 11)) rfl (by simp)
    refine wp_cond_false (hE.eval rfl) ?_
    refine wp_exit ?_
    refine q_then_e ?_
    refine q_then_e ?_
    refine q_block_x ?_
    refine hK5 _ _ ?_
    refine wp_seq_k (fun K9 hK9 => ?_)
    refine wp_plain [true, false, false, false, false, false, false, false, false] rfl rfl ?_
    refine s_move hE rfl rfl ?_; clear hE a; intro a hE
    refine s_buildSlice (xs := [.const (.int .u8 72), .const (.int .u8 105), .const (.int .u8 32)]) (bv [72, 105, 32]) hE hM sl26 rfl rfl rfl (by intro v hv; obtain ⟨x, _, rfl⟩ := List.mem_map.1 (show v ∈ bv [72, 105, 32] from hv); rfl) rfl rfl rfl rfl ?_; clear hE a; intro a v27 w13 hE hM'
    clear hM; have hM := hM'; clear hM'
    refine s_convSame hE rfl hM Tryd.underlying26 Tryd.underlying5 (by omega) (by intro X h; cases h) rfl ?_; clear hE a; intro a w14 hE hM'; clear hM; have hM := hM'; clear hM'
    refine s_buildSlice (xs := [.const (.int .u8 84), .const (.int .u8 104), .const (.int .u8 101), .const (.int .u8 114), .const (.int .u8 101)]) (bv [84, 104, 101, 114, 101]) hE hM sl26 rfl rfl rfl (by intro v hv; obtain ⟨x, _, rfl⟩ := List.mem_map.1 (show v ∈ bv [84, 104, 101, 114, 101] from hv); rfl) rfl rfl rfl rfl ?_; clear hE a; intro a v29 w15 hE hM'
    clear hM; have hM := hM'; clear hM'
    refine s_convSame hE rfl hM Tryd.underlying26 Tryd.underlying5 (by omega) (by intro X h; cases h) rfl ?_; clear hE a; intro a w16 hE hM'; clear hM; have hM := hM'; clear hM'
    have h1 := own_one (hM.get 1 rfl)
    have h3 := own_one (hM.get 0 rfl)
    refine s_buildSlice (xs := [.tmp 28, .const (.slice none 0 0), .tmp 30]) ([v27, .slice none 0 0, v29]) hE hM sl40 rfl rfl rfl (by intro v hv; simp only [List.mem_cons, List.not_mem_nil, or_false] at hv; rcases hv with rfl | rfl | rfl; rw [h1.1]; rfl; rfl; rw [h3.1]; rfl) (by simp [h1.1, h3.1]; rfl) rfl rfl rfl ?_; clear hE a; intro a v31 w17 hE hM'
    clear hM; have hM := hM'; clear hM'
    obtain ⟨c3, hk3⟩ := own_rd (hM.get 3 rfl)
    obtain ⟨cl, hl⟩ := own_rd (hM.get 0 rfl)
    obtain ⟨cp, hp1⟩ := own_rd (hM.get 2 rfl)
    obtain ⟨cq, hp3⟩ := own_rd (hM.get 1 rfl)
    refine s_call hE rfl Tryd.call21 ((by have h := parts_c _ _ (List.replicate 20 11) [[72, 105, 32], [], [84, 104, 101, 114, 101]] _ _ _ _ _ (hM.get 4 rfl) hk3 hl (rdv_cons (p := [72, 105, 32]) hp1 (rdv_cons (rd_nil _) (rdv_cons (p := [84, 104, 101, 114, 101]) hp3 (rdv_nil _)))) (by decide) (by decide) (by decide); rw [show ([[72, 105, 32], [], [84, 104, 101, 114, 101]] : List (List UInt8)).flatten = [72, 105, 32, 84, 104, 101, 114, 101] from rfl, knownC] at h; exact h)) rfl ?_
    rintro e w18 ⟨rfl, hN⟩
    refine ⟨_, rfl, trivial, ?_⟩; clear hE a; intro a hE
    replace hM : Mem _ _ w18 [_, _, _, _, _, _, _] := hM.call0 hN trivial; clear hN
    refine s_alloc [32] hE hM zero23 rfl rfl ?_; clear hE a; intro a b5 w19 hE hM'
    clear hM; have hM := hM'; clear hM'
    refine s_storeSeg 0 hE rfl rfl hM rfl sz23 (by decide) (bv_one _) rfl (by simp) rfl (by intro X h; cases h) ?_; intro w20 hM'; clear hM; have hM := hM'; clear hM'
    simp only [List.set_cons_zero, List.set_cons_succ] at hM
    refine q_nil ?_
    replace hE : Env a 81 [(1, _), (2, _), (3, _), (4, _), (5, _), (20, _)] := hE.sel [1, 2, 3, 4, 5, 20] rfl
    refine hK9 _ _ ?_
    refine wp_seq_k (fun K10 hK10 => ?_)
    refine wp_plain [true, false, true, true, true, true, true] rfl rfl ?_
    refine s_move hE rfl rfl ?_; clear hE a; intro a hE
    refine s_call hE rfl Tryd.call22 (stretch_bad _ _ _ _ (by decide)) rfl ?_
    rintro e w21 ⟨rfl, hN⟩
    refine ⟨_, rfl, trivial, ?_⟩; clear hE a; intro a hE
    replace hM : Mem _ _ w21 [_, _, _, _, _, _, _, _] := hM.call0 hN trivial; clear hN
    refine s_move hE rfl rfl ?_; clear hE a; intro a hE
    refine s_extract hE rfl rfl rfl ?_; clear hE a; intro a hE
    refine s_extract hE rfl rfl rfl ?_; clear hE a; intro a hE
    refine s_assign hE rfl rfl ?_; clear hE a; intro a hE
    refine s_assign hE rfl rfl ?_; clear hE a; intro a hE
    refine q_nil ?_
    replace hE : Env a 81 [(1, _), (2, _), (3, _), (4, _), (5, _), (7, _), (20, _)] := hE.sel [1, 2, 3, 4, 5, 7, 20] rfl
    refine hK10 _ _ ?_
    refine wp_seq_k (fun K11 hK11 => ?_)
    refine wp_plain [true, false, true, true, true, true, true] rfl rfl ?_
    refine s_move hE rfl rfl ?_; clear hE a; intro a hE
    refine s_call hE rfl Tryd.call22 (stretch_bad _ _ _ _ (by decide)) rfl ?_
    rintro e w22 ⟨rfl, hN⟩
    refine ⟨_, rfl, trivial, ?_⟩; clear hE a; intro a hE
    replace hM : Mem _ _ w22 [_, _, _, _, _, _, _, _] := hM.call0 hN trivial; clear hN
    refine s_move hE rfl rfl ?_; clear hE a; intro a hE
    refine s_extract hE rfl rfl rfl ?_; clear hE a; intro a hE
    refine s_extract hE rfl rfl rfl ?_; clear hE a; intro a hE
    refine s_assign hE rfl rfl ?_; clear hE a; intro a hE
    refine s_assign hE rfl rfl ?_; clear hE a; intro a hE
    refine q_nil ?_
    replace hE : Env a 81 [(1, _), (2, _), (3, _), (4, _), (5, _), (7, _), (9, _), (20, _)] := hE.sel [1, 2, 3, 4, 5, 7, 9, 20] rfl
    refine hK11 _ _ ?_
    refine wp_seq_k (fun K12 hK12 => ?_)
    refine wp_plain [true, false, true, true, true, true, true] rfl rfl ?_
    refine s_move hE rfl rfl ?_; clear hE a; intro a hE
    obtain ⟨c4, hk4⟩ := own_rd (hM.get 4 rfl)
    refine s_call hE rfl Tryd.call22 (stretch_c _ (.slice none 0 0) (List.replicate 20 11) [] _ 0 0 _ (hM.get 5 rfl) hk4 (rd_nil _) (by decide) (by decide) (by decide)) rfl ?_
    rintro e w23 ⟨v45, rfl, hN⟩
    refine ⟨_, rfl, trivial, ?_⟩; clear hE a; intro a hE
    replace hM : Mem _ _ w23 [_, _, _, _, _, _, _, _, _] := hM.call0 hN ⟨rfl, trivial⟩; clear hN
    refine s_move hE rfl rfl ?_; clear hE a; intro a hE
    refine s_extract hE rfl rfl rfl ?_; clear hE a; intro a hE
    refine s_extract hE rfl rfl rfl ?_; clear hE a; intro a hE
    refine s_assign hE rfl rfl ?_; clear hE a; intro a hE
    refine s_assign hE rfl rfl ?_; clear hE a; intro a hE
    refine q_nil ?_
    replace hE : Env a 81 [(1, _), (2, _), (3, _), (4, _), (5, _), (7, _), (9, _), (10, _), (11, _), (20, _)] := hE.sel [1, 2, 3, 4, 5, 7, 9, 10, 11, 20] rfl
    refine hK12 _ _ ?_
    refine wp_seq_k (fun K13 hK13 => ?_)
    refine wp_plain [true, false, true, true, true, false, true, true, true, true, false, true, true, true, true, true, true, true, true, true, true, true, true, true, true, true, true, true, true, true, true, false, true, true] rfl rfl ?_
    refine s_sliceArr (l := 0) (h := 32) (mx' := 32) hE rfl arr23 rfl rfl rfl (by simp) (by omega) (by omega) (by omega) rfl ?_; clear hE a; intro a hE
    replace hE := hE.cast 48 rfl (show _ = Value.slice (some ⟨b1, 0, none⟩) 32 32 from rfl)
    refine s_call hE rfl Tryd.call23 (text_c _ [182, 19, 103, 154, 8, 20, 217, 236, 119, 47, 149, 215, 120, 195, 95, 197, 255, 22, 151, 196, 147, 113, 86, 83, 198, 199, 18, 20, 66, 146, 197, 173] _ _ (rd_of_arr (hM.get 7 rfl) (by simp)) (by decide)) rfl ?_
    rintro e w24 ⟨rfl, hN⟩
    refine ⟨_, rfl, trivial, ?_⟩; clear hE a; intro a hE
    replace hM : Mem _ _ w24 [_, _, _, _, _, _, _, _, _] := hM.call0 hN trivial; clear hN
    refine s_bin hE rfl rfl bins_str.1 rfl ?_; clear hE a; intro a hE
    refine s_move hE rfl rfl ?_; clear hE a; intro a hE
    replace hE := hE.cast 51 rfl (show _ = Value.bool true from (congrArg Value.bool (by first | rfl | decide | exact decide_eq_true (by kernel_rfl))))
    refine g_yes hE rfl rfl ?_
    refine s_sliceArr (l := 0) (h := 32) (mx' := 32) hE rfl arr23 rfl rfl rfl (by simp) (by omega) (by omega) (by omega) rfl ?_; clear hE a; intro a hE
    replace hE := hE.cast 52 rfl (show _ = Value.slice (some ⟨b2, 0, none⟩) 32 32 from rfl)
    refine g_yes hE rfl rfl ?_
    refine s_call hE rfl Tryd.call23 (text_c _ [247, 188, 131, 244, 48, 83, 132, 36, 177, 50, 152, 230, 170, 111, 177, 67, 239, 77, 89, 161, 73, 70, 23, 89, 151, 71, 157, 188, 45, 26, 60, 216] _ _ (rd_of_arr (hM.get 8 rfl) (by simp)) (by decide)) rfl ?_
    rintro e w25 ⟨rfl, hN⟩
    refine ⟨_, rfl, trivial, ?_⟩; clear hE a; intro a hE
    replace hM : Mem _ _ w25 [_, _, _, _, _, _, _, _, _] := hM.call0 hN trivial; clear hN
    refine g_yes hE rfl rfl ?_
    refine s_bin hE rfl rfl bins_str.1 rfl ?_; clear hE a; intro a hE
    refine s_pickt hE rfl rfl rfl ?_; clear hE a; intro a hE
    refine s_move hE rfl rfl ?_; clear hE a; intro a hE
    replace hE := hE.cast 56 rfl (show _ = Value.bool true from (congrArg Value.bool (by first | rfl | decide | exact decide_eq_true (by kernel_rfl))))
    refine g_yes hE rfl rfl ?_
    refine s_sliceArr (l := 0) (h := 32) (mx' := 32) hE rfl arr23 rfl rfl rfl (by simp) (by omega) (by omega) (by omega) rfl ?_; clear hE a; intro a hE
    replace hE := hE.cast 57 rfl (show _ = Value.slice (some ⟨b5, 0, none⟩) 32 32 from rfl)
    refine g_yes hE rfl rfl ?_
    refine s_call hE rfl Tryd.call23 (text_c _ [176, 52, 76, 97, 216, 219, 56, 83, 92, 168, 175, 206, 175, 11, 241, 43, 136, 29, 194, 0, 201, 131, 61, 167, 38, 233, 55, 108, 46, 50, 207, 247] _ _ (rd_of_arr (hM.get 1 rfl) (by simp)) (by decide)) rfl ?_
    rintro e w26 ⟨rfl, hN⟩
    refine ⟨_, rfl, trivial, ?_⟩; clear hE a; intro a hE
    replace hM : Mem _ _ w26 [_, _, _, _, _, _, _, _, _] := hM.call0 hN trivial; clear hN
    refine g_yes hE rfl rfl ?_
    refine s_bin hE rfl rfl bins_str.1 rfl ?_; clear hE a; intro a hE
    refine s_pickt hE rfl rfl rfl ?_; clear hE a; intro a hE
    refine s_move hE rfl rfl ?_; clear hE a; intro a hE
    replace hE := hE.cast 61 rfl (show _ = Value.bool true from (congrArg Value.bool (by first | rfl | decide | exact decide_eq_true (by kernel_rfl))))
    refine g_yes hE rfl rfl ?_
    refine s_move hE rfl rfl ?_; clear hE a; intro a hE
    refine g_yes hE rfl rfl ?_
    refine s_bin hE rfl rfl bin_eql rfl ?_; clear hE a; intro a hE
    refine s_pickt hE rfl rfl rfl ?_; clear hE a; intro a hE
    refine s_move hE rfl rfl ?_; clear hE a; intro a hE
    replace hE := hE.cast 65 rfl (show _ = Value.bool true from (congrArg Value.bool (by first | rfl | decide | exact decide_eq_true (by kernel_rfl))))
    refine g_yes hE rfl rfl ?_
    refine s_move hE rfl rfl ?_; clear hE a; intro a hE
    refine g_yes hE rfl rfl ?_
    refine s_bin hE rfl rfl bin_eql rfl ?_; clear hE a; intro a hE
    refine s_pickt hE rfl rfl rfl ?_; clear hE a; intro a hE
    refine s_move hE rfl rfl ?_; clear hE a; intro a hE
    replace hE := hE.cast 69 rfl (show _ = Value.bool true from (congrArg Value.bool (by first | rfl | decide | exact decide_eq_true (by kernel_rfl))))
    refine g_yes hE rfl rfl ?_
    refine s_move hE rfl rfl ?_; clear hE a; intro a hE
    refine g_yes hE rfl rfl ?_
    refine s_bin hE rfl rfl bin_eql rfl ?_; clear hE a; intro a hE
    refine s_pickt hE rfl rfl rfl ?_; clear hE a; intro a hE
    refine s_move hE rfl rfl ?_; clear hE a; intro a hE
    replace hE := hE.cast 73 rfl (show _ = Value.bool true from (congrArg Value.bool (by first | rfl | decide | exact decide_eq_true (by kernel_rfl))))
    refine g_yes hE rfl rfl ?_
    refine s_move hE rfl rfl ?_; clear hE a; intro a hE
    refine g_yes hE rfl rfl ?_
    refine s_len hE rfl Tryd.underlying26 (own_slice (hM.get 0 rfl)) rfl ?_; clear hE a; intro a hE
    refine g_yes hE rfl rfl ?_
    refine s_bin hE rfl rfl bin_eql rfl ?_; clear hE a; intro a hE
    refine s_pickt hE rfl rfl rfl ?_; clear hE a; intro a hE
    refine s_move hE rfl rfl ?_; clear hE a; intro a hE
    replace hE := hE.cast 78 rfl (show _ = Value.bool true from (congrArg Value.bool (by first | rfl | decide | exact decide_eq_true (by kernel_rfl))))
    refine g_yes hE rfl rfl ?_
    refine s_call hE rfl Tryd.call17 (works_c _ (hM.get 6 rfl)) rfl ?_
    rintro e w27 ⟨rfl, hN⟩
    refine ⟨_, rfl, trivial, ?_⟩; clear hE a; intro a hE
    replace hM : Mem _ _ w27 [_, _, _, _, _, _, _, _, _] := hM.call0 hN trivial; clear hN
    refine s_pickt hE rfl rfl rfl ?_; clear hE a; intro a hE
    refine s_assign hE rfl rfl ?_; clear hE a; intro a hE
    refine q_nil ?_
    replace hE : Env a 81 [(0, _), (1, _), (2, _), (3, _), (4, _), (5, _), (20, _)] := hE.sel [0, 1, 2, 3, 4, 5, 20] rfl
    refine hK13 _ _ ?_
    refine wp_ret ?_
    refine f_ret1 hE rfl rfl ?_
    exact ⟨by first | rfl | simp, hM.nil⟩
set_option maxRecDepth 100000 in
theorem hmacKnown_lifted (os : Os) (started : os.Started) (H : Type) (enc : TypeId × Value → H) :
    ReturnsInHanded {} Tryd.checked os 6 .any (fun w args => (Rows.hmacKnownSpec.pre enc Tryd.prog Tryd.f6 [] false w args ∧ laidMetH Tryd.prog Rows.hmacKnownRow.laid w) ∧ sizedMet enc Tryd.prog Tryd.f6 (OpenSpec.ofChange Rows.hmacKnownSpec) false w args) (Rows.hmacKnownSpec.post enc Tryd.prog Tryd.f6 false true false false) := by
  refine law_liftedL (C := Tryd.checked) (fn := Tryd.f6) (l := Rows.hmacKnownRow.laid) (by kernel_rfl) started (by kernel_rfl) Tryd.func6 rfl (fun ds hl => ?_) rfl Tryd.underlying4 (by kernel_rfl) (of_decide_eq_true (by kernel_rfl)) (by kernel_rfl)
    (ChangeSpec.witness_shaped (enc := enc) (C := Tryd.checked) (os := os) (X := fun w _ => laidMetH Tryd.prog Rows.hmacKnownRow.laid w) false (World.laidAll Tryd.prog os Rows.hmacKnownRow.laid) #[] 8 (World.laidAll_os _ _ _) (World.shaped_of_ZipB (by kernel_rfl) (by kernel_rfl)) (by kernel_rfl) (by kernel_rfl) (by kernel_rfl) (by rw [MakeChecks.laidMetH_plain _ _ _ (by kernel_rfl)]; exact laidMet_laidAll _ (by kernel_rfl) (by kernel_rfl))) ?_
  · rw [Tryd.params6] at hl
    match ds, hl with
    | [], _ => rfl
  · intro W base args ds ps hval hA hw hL
    have hG := glb_of_laid (P := Tryd.prog) (g := 0) (t := 91) (e := 48) (by kernel_rfl) (by kernel_rfl) Tryd.underlying91 Tryd.underlying48 (by kernel_rfl) (by kernel_rfl) (by kernel_rfl) (show laidMet Tryd.prog (_ :: _) W from hL)
    rw [Tryd.params6] at hA hval hw
    obtain ⟨hargs, rfl, rfl⟩ := trodAll_nil hA
    obtain rfl : args = #[] := by cases args; simp_all
    exact hmacKnown_c W hG

/-- The row's statement. -/
theorem hmacKnown_row : Rows.HmacKnownSaid :=
  OpenClaim.holds_of_wide 6 Tryd.f6 rfl rfl rfl rfl rfl rfl rfl ⟨rfl, rfl, rfl, rfl, rfl⟩ rfl rfl rfl rfl rfl (by kernel_rfl) Tryd.func6 (by kernel_rfl)
    (of_decide_eq_true (by kernel_rfl)) (by unfold Func.isWrapper; first | (rw [if_pos (by decide +kernel)]; kernel_rfl) | (rw [if_neg (by decide +kernel)]; exact ⟨rfl, rfl⟩))
    (fun os started H enc _ => hmacKnown_lifted os started H enc)

/-- The statement: the row, its listed variable tied to the program's text. -/
theorem hmacKnown_holds : Rows.HmacKnownCardSaid :=
  Claim7.holds_tied_plain_at .later [] [.data] true (true, "84ae260bd57be45edc78bdc8f25baf9a88e7d5216b5328ce6ba213109669f402") true
    hmacKnown_row (fun _ h => by cases h) (by kernel_rfl) (fun _ h => by cases h) hmacKnown_row_tie rfl ⟨rfl, rfl⟩ (by kernel_rfl) rfl
    (fun f fn hf hfn => by
      obtain rfl : f = 6 := Option.some.inj ((show Tryd.prog.funcNamed "casemate/casematelaw04.HmacKnown" = some 6 by kernel_rfl).symm.trans hf) |>.symm
      obtain rfl : fn = Tryd.f6 := (Option.some.inj (Tryd.func6.symm.trans hfn)).symm
      exact ⟨by kernel_rfl, fun j t ht => by
        rw [Tryd.params6] at ht
        simp at ht⟩)
    (by kernel_rfl)
#print axioms hmacKnown_holds
end Go.Proofs.YtcmikkfekmmheaaDoor
