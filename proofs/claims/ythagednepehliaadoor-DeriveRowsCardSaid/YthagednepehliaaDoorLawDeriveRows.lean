/- DeriveRows of casematelaw09 returns true for whatever key and two labels. No condition. -/
import Derived.Test.YthagednepehliaaDoorLd
import Derived.Test.YthagednepehliaaDoorTie
import Derived.Test.YthagednepehliaaDoorCards
namespace Go.Proofs.YthagednepehliaaDoor
open Go Go.Kx
open Go.ChangeShapes Go.WideShapes Go.ChangeAt Go.RowKit

theorem rowL_parts {l : List UInt8} (h : l.length < 4294967296) : pParts (rowL l) = (68, [l], 0) := by
  have := pParts_laid (dm := 68) (ps := [l]) (by simp) (by intro p hp; rw [List.mem_singleton.1 hp]; exact h) []
  simpa [rowL, pRow] using this
theorem deriveRows_c (key : List UInt8) (s t : ByteArray) (w : World) (hG : (glb 0).holds w) (hk : key.length = 32) : Calls Tryd.prog 12 #[.agg (bv key).toArray, .string s, .string t] w fun e w' => e = .returned (.bool true) ∧ Mem w [] w' [] := by
  have hM := Mem.startR1 hG rfl
  have hszs : s.data.toList.length = s.size := rfl
  have hszt : t.data.toList.length = t.size := rfl
  refine f_enter 100 Tryd.func12 rfl rfl rfl ?_
  intro a hE
  replace hE : Env a 100 [(0, _), (1, _), (2, _)] := hE
  refine wp_seq_k (fun K1 hK1 => ?_)
  refine wp_plain [false, true] rfl rfl ?_
  refine s_box (ss := [bv key]) [32] hE hM rfl (by simp [Value.cells]) (by simp [hk]) rfl ?_; clear hE a; intro a b3 w1 hE hM'
  clear hM; have hM := hM'; clear hM'
  refine s_assign hE rfl rfl ?_; clear hE a; intro a hE
  refine q_nil ?_
  replace hE : Env a 100 [(1, _), (2, _), (3, _), (6, _)] := hE.sel [1, 2, 3, 6] rfl
  refine hK1 _ _ ?_
  refine wp_seq_k (fun K2 hK2 => ?_)
  refine wp_seq_k (fun K3 hK3 => ?_)
  refine wp_plain [true, true, true, true, true, true, true, true] rfl rfl ?_
  refine s_move hE rfl rfl ?_; clear hE a; intro a hE
  refine s_len_str hE rfl Tryd.underlying9 rfl ?_; clear hE a; intro a hE
  refine s_bin hE rfl rfl bin_gtr rfl ?_; clear hE a; intro a hE
  refine s_move hE rfl rfl ?_; clear hE a; intro a hE
  refine hE.split 17 rfl (fun hb17 hE' => ?_) (fun hb17 hE' => ?_)
  · replace hE := hE'; clear hE'
    replace hb17 := of_decide_eq_true hb17
    refine g_no (b := true) hE rfl rfl rfl ?_; clear hE a; intro a hE
    refine g_no (b := true) hE rfl rfl rfl ?_; clear hE a; intro a hE
    refine g_no (b := true) hE rfl rfl rfl ?_; clear hE a; intro a hE
    refine s_pickt hE rfl rfl rfl ?_; clear hE a; intro a hE
    refine q_nil ?_
    replace hE : Env a 100 [(1, _), (2, _), (3, _), (6, _), (21, _)] := hE.sel [1, 2, 3, 6, 21] rfl
    refine hK3 _ _ ?_
    refine wp_cond_true (hE.eval rfl) ?_
    refine wp_seq_k (fun K4 hK4 => ?_)
    refine wp_plain [false, true] rfl rfl ?_
    refine s_call hE rfl Tryd.call27 (awake9_c _ (hM.get 1 rfl)) rfl ?_
    rintro e w2 ⟨rfl, hN⟩
    refine ⟨_, rfl, trivial, ?_⟩; clear hE a; intro a hE
    replace hM : Mem _ _ w2 [_, _] := hM.call0 hN trivial; clear hN
    refine s_assign hE rfl rfl ?_; clear hE a; intro a hE
    refine q_nil ?_
    replace hE : Env a 100 [(1, _), (2, _), (3, _), (6, _), (21, _)] := hE.sel [1, 2, 3, 6, 21] rfl
    refine hK4 _ _ ?_
    refine wp_ret ?_
    refine q_then_r ?_
    refine f_ret1 hE rfl rfl ?_
    exact ⟨rfl, hM.nil⟩
  · replace hE := hE'; clear hE'
    replace hb17 := of_decide_eq_false hb17
    refine g_yes hE rfl rfl ?_
    refine s_move hE rfl rfl ?_; clear hE a; intro a hE
    refine g_yes hE rfl rfl ?_
    refine s_len_str hE rfl Tryd.underlying9 rfl ?_; clear hE a; intro a hE
    refine g_yes hE rfl rfl ?_
    refine s_bin hE rfl rfl bin_gtr rfl ?_; clear hE a; intro a hE
    refine s_pickf hE rfl rfl rfl ?_; clear hE a; intro a hE
    refine q_nil ?_
    replace hE : Env a 100 [(1, _), (2, _), (3, _), (6, _), (21, _)] := hE.sel [1, 2, 3, 6, 21] rfl
    refine hK3 _ _ ?_
    refine hE.split 21 rfl (fun hb21 hE' => ?_) (fun hb21 hE' => ?_)
    · replace hE := hE'; clear hE'
      replace hb21 := of_decide_eq_true hb21
      refine wp_cond_true (hE.eval rfl) ?_
      refine wp_seq_k (fun K4 hK4 => ?_)
      refine wp_plain [false, true] rfl rfl ?_
      refine s_call hE rfl Tryd.call27 (awake9_c _ (hM.get 1 rfl)) rfl ?_
      rintro e w2 ⟨rfl, hN⟩
      refine ⟨_, rfl, trivial, ?_⟩; clear hE a; intro a hE
      replace hM : Mem _ _ w2 [_, _] := hM.call0 hN trivial; clear hN
      refine s_assign hE rfl rfl ?_; clear hE a; intro a hE
      refine q_nil ?_
      replace hE : Env a 100 [(1, _), (2, _), (3, _), (6, _), (21, _)] := hE.sel [1, 2, 3, 6, 21] rfl
      refine hK4 _ _ ?_
      refine wp_ret ?_
      refine q_then_r ?_
      refine f_ret1 hE rfl rfl ?_
      exact ⟨rfl, hM.nil⟩
    · replace hE := hE'; clear hE'
      replace hb21 := of_decide_eq_false hb21
      refine wp_cond_false (hE.eval rfl) ?_
      refine wp_skip ?_
      refine hK2 _ _ ?_
      refine wp_seq_k (fun K4 hK4 => ?_)
      refine wp_plain [true, false, false, false, true, true, true, true, true] rfl rfl ?_
      refine s_move hE rfl rfl ?_; clear hE a; intro a hE
      refine s_ofStr hE rfl hM Tryd.underlying9 Tryd.underlying22 Tryd.underlying5 (len47 (by omega)) rfl ?_; clear hE a; intro a v25 w2 hE hM'; clear hM; have hM := hM'; clear hM'
      have h26 := own_one (hM.get 0 rfl)
      refine s_buildSlice (xs := [.tmp 25]) ([v25]) hE hM sl57 rfl rfl rfl (by intro v hv; rw [List.mem_singleton.1 hv, h26.1]; rfl) (by simp [h26.1]) rfl rfl rfl ?_; clear hE a; intro a v26 w3 hE hM'
      clear hM; have hM := hM'; clear hM'
      obtain ⟨cl27, hl27⟩ := own_rd (hM.get 0 rfl)
      obtain ⟨cb27, hb27⟩ := own_rd (hM.get 1 rfl)
      refine s_call hE rfl Tryd.call31 ((by have h := brow_c 68 _ [s.data.toList] _ _ _ w3 hl27 (rdv_cons (p := s.data.toList) hb27 (rdv_nil _)) (by simp [rowBytes, hszs]; omega); rw [rowL_ok] at h; exact h)) rfl ?_
      rintro e w4 ⟨vx, rfl, hN⟩
      refine ⟨_, rfl, trivial, ?_⟩; clear hE a; intro a hE
      replace hM : Mem _ _ w4 [_, _, _, _, _] := hM.call0 hN ⟨rfl, trivial⟩; clear hN
      refine s_move hE rfl rfl ?_; clear hE a; intro a hE
      refine s_extract hE rfl rfl rfl ?_; clear hE a; intro a hE
      refine s_extract hE rfl rfl rfl ?_; clear hE a; intro a hE
      refine s_assign hE rfl rfl ?_; clear hE a; intro a hE
      refine s_assign hE rfl rfl ?_; clear hE a; intro a hE
      refine q_nil ?_
      replace hE : Env a 100 [(1, _), (2, _), (3, _), (6, _), (7, _), (8, _), (21, _)] := hE.sel [1, 2, 3, 6, 7, 8, 21] rfl
      refine hK4 _ _ ?_
      refine wp_seq_k (fun K5 hK5 => ?_)
      refine wp_plain [true, false, false, false, true, true, true, true, true] rfl rfl ?_
      refine s_move hE rfl rfl ?_; clear hE a; intro a hE
      refine s_ofStr hE rfl hM Tryd.underlying9 Tryd.underlying22 Tryd.underlying5 (len47 (by omega)) rfl ?_; clear hE a; intro a v32 w5 hE hM'; clear hM; have hM := hM'; clear hM'
      have h33 := own_one (hM.get 0 rfl)
      refine s_buildSlice (xs := [.tmp 32]) ([v32]) hE hM sl57 rfl rfl rfl (by intro v hv; rw [List.mem_singleton.1 hv, h33.1]; rfl) (by simp [h33.1]) rfl rfl rfl ?_; clear hE a; intro a v33 w6 hE hM'
      clear hM; have hM := hM'; clear hM'
      obtain ⟨cl34, hl34⟩ := own_rd (hM.get 0 rfl)
      obtain ⟨cb34, hb34⟩ := own_rd (hM.get 1 rfl)
      refine s_call hE rfl Tryd.call31 ((by have h := brow_c 68 _ [t.data.toList] _ _ _ w6 hl34 (rdv_cons (p := t.data.toList) hb34 (rdv_nil _)) (by simp [rowBytes, hszt]; omega); rw [rowL_ok] at h; exact h)) rfl ?_
      rintro e w7 ⟨vy, rfl, hN⟩
      refine ⟨_, rfl, trivial, ?_⟩; clear hE a; intro a hE
      replace hM : Mem _ _ w7 [_, _, _, _, _, _, _, _] := hM.call0 hN ⟨rfl, trivial⟩; clear hN
      refine s_move hE rfl rfl ?_; clear hE a; intro a hE
      refine s_extract hE rfl rfl rfl ?_; clear hE a; intro a hE
      refine s_extract hE rfl rfl rfl ?_; clear hE a; intro a hE
      refine s_assign hE rfl rfl ?_; clear hE a; intro a hE
      refine s_assign hE rfl rfl ?_; clear hE a; intro a hE
      refine q_nil ?_
      replace hE : Env a 100 [(1, _), (2, _), (3, _), (6, _), (7, _), (8, _), (9, _), (10, _), (21, _)] := hE.sel [1, 2, 3, 6, 7, 8, 9, 10, 21] rfl
      refine hK5 _ _ ?_
      refine wp_seq_k (fun K6 hK6 => ?_)
      refine wp_seq_k (fun K7 hK7 => ?_)
      refine wp_plain [true, true, true, true, true, true, true, true, true, true, true, true, true, true, true, true, true] rfl rfl ?_
      refine s_move hE rfl rfl ?_; clear hE a; intro a hE
      refine s_bin hE rfl rfl bin_neq rfl ?_; clear hE a; intro a hE
      refine s_move hE rfl rfl ?_; clear hE a; intro a hE
      replace hE := hE.cast 39 rfl (show _ = Value.bool false from (congrArg Value.bool (by first | rfl | decide)))
      refine g_yes hE rfl rfl ?_
      refine s_move hE rfl rfl ?_; clear hE a; intro a hE
      refine g_yes hE rfl rfl ?_
      refine s_bin hE rfl rfl bin_neq rfl ?_; clear hE a; intro a hE
      refine s_pickf hE rfl rfl rfl ?_; clear hE a; intro a hE
      refine s_move hE rfl rfl ?_; clear hE a; intro a hE
      replace hE := hE.cast 43 rfl (show _ = Value.bool false from (congrArg Value.bool (by first | rfl | decide)))
      refine g_yes hE rfl rfl ?_
      refine s_move hE rfl rfl ?_; clear hE a; intro a hE
      refine g_yes hE rfl rfl ?_
      obtain ⟨cs45, hs45⟩ := own_rd (hM.get 3 rfl)
      refine s_toStr hE rfl Tryd.underlying22 Tryd.underlying5 Tryd.underlying9 hs45 (by intro X h; cases h) rfl ?_; clear hE a; intro a hE
      refine g_yes hE rfl rfl ?_
      refine s_move hE rfl rfl ?_; clear hE a; intro a hE
      refine g_yes hE rfl rfl ?_
      obtain ⟨cs47, hs47⟩ := own_rd (hM.get 0 rfl)
      refine s_toStr hE rfl Tryd.underlying22 Tryd.underlying5 Tryd.underlying9 hs47 (by intro X h; cases h) rfl ?_; clear hE a; intro a hE
      refine g_yes hE rfl rfl ?_
      refine s_bin hE rfl rfl bins_str.1 rfl ?_; clear hE a; intro a hE
      refine g_yes hE rfl rfl ?_
      refine s_move hE rfl rfl ?_; clear hE a; intro a hE
      refine g_yes hE rfl rfl ?_
      refine s_move hE rfl rfl ?_; clear hE a; intro a hE
      refine g_yes hE rfl rfl ?_
      refine s_bin hE rfl rfl bins_str.1 rfl ?_; clear hE a; intro a hE
      refine g_yes hE rfl rfl ?_
      refine s_bin hE rfl rfl (bins_bool Tryd.underlying4).2 rfl ?_; clear hE a; intro a hE
      refine s_pickf hE rfl rfl rfl ?_; clear hE a; intro a hE
      refine q_nil ?_
      replace hE : Env a 100 [(1, _), (2, _), (3, _), (6, _), (7, _), (9, _), (21, _), (53, _)] := hE.sel [1, 2, 3, 6, 7, 9, 21, 53] rfl
      refine hK7 _ _ ?_
      replace hE := hE.cast 53 rfl (show _ = Value.bool false from (congrArg Value.bool (by simp only [str_data, rowL_inj]; cases h : decide (s.data.toList = t.data.toList) <;> rfl)))
      refine wp_cond_false (hE.eval rfl) ?_
      refine wp_skip ?_
      refine hK6 _ _ ?_
      refine wp_seq_k (fun K8 hK8 => ?_)
      refine wp_plain [true, false, true, true, true, true, true, true, true] rfl rfl ?_
      refine s_move hE rfl rfl ?_; clear hE a; intro a hE
      obtain ⟨cx, hx⟩ := own_rd (hM.get 3 rfl)
      refine s_call hE rfl Tryd.call32 ((by have h := bparts_c (rowL s.data.toList) _ _ w7 hx (by rw [rowL_eq]; simp [hszs]; omega); rw [rowL_parts (by rw [hszs]; omega)] at h; exact h)) rfl ?_
      rintro e w8 ⟨pv, vs, bb, rfl, hbb, hN⟩
      refine ⟨_, rfl, trivial, ?_⟩; clear hE a; intro a hE
      replace hM : Mem _ _ w8 [_, _, _, _, _, _, _, _, _, _] := hM.callN hN (by intro e he x hx; rcases List.mem_cons.1 he with rfl | he; exact absurd hx List.not_mem_nil; rw [List.mem_singleton.1 he] at hx; exact hbb x hx); clear hN
      replace hM : Mem _ _ w8 [own pv 1 1 vs, rdv bb vs [s.data.toList], _, _, _, _, _, _, _, _] := hM
      have hvl : vs.length = 1 := (hM.get 1 rfl).2.1
      refine s_move hE rfl rfl ?_; clear hE a; intro a hE
      refine s_extract hE rfl rfl rfl ?_; clear hE a; intro a hE
      refine s_extract hE rfl rfl rfl ?_; clear hE a; intro a hE
      refine s_extract hE rfl rfl rfl ?_; clear hE a; intro a hE
      refine s_assign hE rfl rfl ?_; clear hE a; intro a hE
      refine s_assign hE rfl rfl ?_; clear hE a; intro a hE
      refine s_assign hE rfl rfl ?_; clear hE a; intro a hE
      refine q_nil ?_
      replace hE : Env a 100 [(1, _), (2, _), (3, _), (6, _), (7, _), (9, _), (11, _), (12, _), (13, _), (21, _), (53, _)] := hE.sel [1, 2, 3, 6, 7, 9, 11, 12, 13, 21, 53] rfl
      refine hK8 _ _ ?_
      refine wp_seq_k (fun K9 hK9 => ?_)
      refine wp_drawnM hM (by kernel_rfl) (fun _ => False) [(0, true), (1, true), (2, true), (3, true), (4, true), (5, true), (6, true), (7, true), (8, true), (9, true), (10, true), (11, true), (12, true), (13, true), (14, true), (15, true), (16, true), (17, true), (18, true), (19, true), (20, true), (21, true), (23, true), (24, true), (22, false), (25, false), (26, true), (27, true), (28, true), (29, true), (30, true), (32, true), (33, true), (31, false), (34, false), (35, true), (36, true), (37, true), (38, false), (39, true), (40, true)] [(22, [(25, 22), (26, 22), (27, 26), (28, 25), (29, 28), (30, 28), (32, 28), (33, 28), (31, 28), (34, 32), (35, 34), (36, 35), (37, 34), (38, 37), (39, 37), (40, 22)]), (25, [(26, 25), (27, 26), (28, 25), (29, 28), (30, 28), (32, 28), (33, 28), (31, 28), (34, 32), (35, 34), (36, 35), (37, 34), (38, 37), (39, 37), (40, 25)]), (31, [(34, 31), (35, 31), (36, 35), (37, 34), (38, 37), (39, 37), (40, 31)]), (34, [(35, 34), (36, 35), (37, 34), (38, 37), (39, 37), (40, 34)]), (38, [(39, 38), (40, 38)])] (by kernel_rfl) rfl ?_
      intro w9 hM' hww9; clear hM; have hM := hM'; clear hM'
      refine s_move hE rfl rfl ?_; clear hE a; intro a hE
      refine s_bin hE rfl rfl bin_eql rfl ?_; clear hE a; intro a hE
      refine s_move hE rfl rfl ?_; clear hE a; intro a hE
      replace hE := hE.cast 62 rfl (show _ = Value.bool true from (congrArg Value.bool (by first | rfl | decide)))
      refine g_yes hE rfl rfl ?_
      refine s_move hE rfl rfl ?_; clear hE a; intro a hE
      refine g_yes hE rfl rfl ?_
      refine s_bin hE rfl rfl bin_eql rfl ?_; clear hE a; intro a hE
      refine s_pickt hE rfl rfl rfl ?_; clear hE a; intro a hE
      refine s_move hE rfl rfl ?_; clear hE a; intro a hE
      replace hE := hE.cast 66 rfl (show _ = Value.bool true from (congrArg Value.bool (by first | rfl | decide)))
      refine g_yes hE rfl rfl ?_
      refine s_move hE rfl rfl ?_; clear hE a; intro a hE
      refine g_yes hE rfl rfl ?_
      refine s_len hE rfl Tryd.underlying57 (own_slice (hM.get 0 rfl)) rfl ?_; clear hE a; intro a hE
      refine g_yes hE rfl rfl ?_
      refine s_bin hE rfl rfl bin_eql rfl ?_; clear hE a; intro a hE
      refine s_pickt hE rfl rfl rfl ?_; clear hE a; intro a hE
      refine s_move hE rfl rfl ?_; clear hE a; intro a hE
      replace hE := hE.cast 71 rfl (show _ = Value.bool true from (congrArg Value.bool (by first | rfl | decide | simp)))
      refine g_yes hE rfl rfl ?_
      refine s_move hE rfl rfl ?_; clear hE a; intro a hE
      refine g_yes hE rfl rfl ?_
      obtain ⟨cx73, hx73⟩ := own_rd (hM.get 0 rfl)
      refine s_indexRd (j := 0) hE rfl hx73 rfl slt57 (by first | rfl | omega) (by first | omega | (simp; omega) | decide) rfl ?_; clear hE a; intro a p73 hE hc73 hp73
      refine g_yes hE rfl rfl ?_
      rw [elem1 (by omega)] at hc73
      refine s_loadAt1 hE rfl hc73 one22 (by intro X h; cases h; simp) rfl ?_; clear hE a; intro a hE
      refine g_yes hE rfl rfl ?_
      refine s_toStr hE rfl Tryd.underlying22 Tryd.underlying5 Tryd.underlying9 (Exists.choose_spec (rdv_get (hM.get 1 rfl) (i := 0) (by simp))) (by intro X h; cases h; simp) rfl ?_; clear hE a; intro a hE
      refine g_yes hE rfl rfl ?_
      refine s_move hE rfl rfl ?_; clear hE a; intro a hE
      refine g_yes hE rfl rfl ?_
      refine s_bin hE rfl rfl bins_str.1 rfl ?_; clear hE a; intro a hE
      refine s_pickt hE rfl rfl rfl ?_; clear hE a; intro a hE
      refine s_move hE rfl rfl ?_; clear hE a; intro a hE
      replace hE := hE.cast 79 rfl (show _ = Value.bool true from (congrArg Value.bool (by simp)))
      refine g_yes hE rfl rfl ?_
      refine s_loadN hE rfl (hM.get 8 rfl) row46 rfl (by intro X h; cases h; simp) rfl ?_; clear hE a; intro a hE
      refine g_yes hE rfl rfl ?_
      refine s_move hE rfl rfl ?_; clear hE a; intro a hE
      refine g_yes hE rfl rfl ?_
      refine s_sliceArr (l := 0) (h := 32) (mx' := 32) hE rfl arr46 rfl rfl rfl (by simp) (by omega) (by omega) (by omega) rfl ?_; clear hE a; intro a hE
      replace hE := hE.cast 83 rfl (show _ = Value.slice (some ⟨b3, 0, none⟩) 32 32 from rfl)
      refine g_yes hE rfl rfl ?_
      refine s_move hE rfl rfl ?_; clear hE a; intro a hE
      refine g_yes hE rfl rfl ?_
      refine s_call hE rfl Tryd.call28 (sub_c key s _ (hM.get 9 rfl) hk (by omega)) rfl ?_
      rintro e w10 ⟨rfl, hN⟩
      refine ⟨_, rfl, hN.sta0 _, ?_⟩; clear hE a; intro a hE
      replace hM : Mem _ _ w10 [_, _, _, _, _, _, _, _, _, _] := hM.call0 hN trivial; clear hN
      refine g_yes hE rfl rfl ?_
      obtain ⟨cr85, hr85⟩ := own_rd (hM.get 5 rfl)
      refine s_call hE rfl Tryd.call24 (of_c _ _ key (rowL s.data.toList) _ _ _ (hM.get 9 rfl) (rd_of_arr (hM.get 8 rfl) hk) hr85 (by omega) (by rw [rowL_eq]; simp [hszs]; omega)) rfl ?_
      rintro e w11 ⟨rfl, hN⟩
      refine ⟨_, rfl, hN.sta0 _, ?_⟩; clear hE a; intro a hE
      replace hM : Mem _ _ w11 [_, _, _, _, _, _, _, _, _, _] := hM.call0 hN trivial; clear hN
      refine g_yes hE rfl rfl ?_
      refine s_bin hE rfl rfl (eqa46 (by first | simp | assumption) (by first | simp | assumption)).1 rfl ?_; clear hE a; intro a hE
      refine s_pickt hE rfl rfl rfl ?_; clear hE a; intro a hE
      refine s_move hE rfl rfl ?_; clear hE a; intro a hE
      replace hE := hE.cast 88 rfl (show _ = Value.bool true from (congrArg Value.bool (decide_eq_true rfl)))
      refine g_yes hE rfl rfl ?_
      refine s_loadN hE rfl (hM.get 8 rfl) row46 rfl (by intro X h; cases h; simp) rfl ?_; clear hE a; intro a hE
      refine g_yes hE rfl rfl ?_
      refine s_move hE rfl rfl ?_; clear hE a; intro a hE
      refine g_yes hE rfl rfl ?_
      refine s_sliceArr (l := 0) (h := 32) (mx' := 32) hE rfl arr46 rfl rfl rfl (by simp) (by omega) (by omega) (by omega) rfl ?_; clear hE a; intro a hE
      replace hE := hE.cast 92 rfl (show _ = Value.slice (some ⟨b3, 0, none⟩) 32 32 from rfl)
      refine g_yes hE rfl rfl ?_
      refine s_move hE rfl rfl ?_; clear hE a; intro a hE
      refine g_yes hE rfl rfl ?_
      refine s_call hE rfl Tryd.call28 (sub_c key t _ (hM.get 9 rfl) hk (by omega)) rfl ?_
      rintro e w12 ⟨rfl, hN⟩
      refine ⟨_, rfl, hN.sta0 _, ?_⟩; clear hE a; intro a hE
      replace hM : Mem _ _ w12 [_, _, _, _, _, _, _, _, _, _] := hM.call0 hN trivial; clear hN
      refine g_yes hE rfl rfl ?_
      obtain ⟨cr94, hr94⟩ := own_rd (hM.get 2 rfl)
      refine s_call hE rfl Tryd.call24 (of_c _ _ key (rowL t.data.toList) _ _ _ (hM.get 9 rfl) (rd_of_arr (hM.get 8 rfl) hk) hr94 (by omega) (by rw [rowL_eq]; simp [hszt]; omega)) rfl ?_
      rintro e w13 ⟨rfl, hN⟩
      refine ⟨_, rfl, hN.sta0 _, ?_⟩; clear hE a; intro a hE
      replace hM : Mem _ _ w13 [_, _, _, _, _, _, _, _, _, _] := hM.call0 hN trivial; clear hN
      refine g_yes hE rfl rfl ?_
      refine s_bin hE rfl rfl (eqa46 (by first | simp | assumption) (by first | simp | assumption)).1 rfl ?_; clear hE a; intro a hE
      refine s_pickt hE rfl rfl rfl ?_; clear hE a; intro a hE
      refine s_move hE rfl rfl ?_; clear hE a; intro a hE
      replace hE := hE.cast 97 rfl (show _ = Value.bool true from (congrArg Value.bool (decide_eq_true rfl)))
      refine g_yes hE rfl rfl ?_
      refine s_call hE rfl Tryd.call27 (awake9_c _ (hM.get 9 rfl)) rfl ?_
      rintro e w14 ⟨rfl, hN⟩
      refine ⟨_, rfl, hN.sta0 _, ?_⟩; clear hE a; intro a hE
      replace hM : Mem _ _ w14 [_, _, _, _, _, _, _, _, _, _] := hM.call0 hN trivial; clear hN
      refine s_pickt hE rfl rfl rfl ?_; clear hE a; intro a hE
      refine s_assign hE rfl rfl ?_; clear hE a; intro a hE
      refine q_nil ?_
      replace hE : Env a 100 [(1, _), (2, _), (6, _), (7, _), (9, _), (21, _), (53, _)] := hE.sel [1, 2, 6, 7, 9, 21, 53] rfl
      refine hK9 _ _ ?_
      refine wp_ret ?_
      refine f_ret1 hE rfl rfl ?_
      exact ⟨rfl, hM.nil⟩
set_option maxRecDepth 100000 in
theorem deriveRows_lifted (os : Os) (started : os.Started) (H : Type) (enc : TypeId × Value → H) :
    ReturnsInHanded {} Tryd.checked os 12 .any (fun w args => (Rows.deriveRowsSpec.pre enc Tryd.prog Tryd.f12 [] false w args ∧ laidMetH Tryd.prog Rows.deriveRowsRow.laid w) ∧ sizedMet enc Tryd.prog Tryd.f12 (OpenSpec.ofChange Rows.deriveRowsSpec) false w args) (Rows.deriveRowsSpec.post enc Tryd.prog Tryd.f12 false true false false) := by
  refine law_liftedL (C := Tryd.checked) (fn := Tryd.f12) (l := Rows.deriveRowsRow.laid) (by kernel_rfl) started (by kernel_rfl) Tryd.func12 rfl (fun ds hl => ?_) rfl Tryd.underlying4 (by kernel_rfl) (of_decide_eq_true (by kernel_rfl)) (by kernel_rfl)
    (ChangeSpec.witness_shaped (enc := enc) (C := Tryd.checked) (os := os) (X := fun w _ => laidMetH Tryd.prog Rows.deriveRowsRow.laid w) false (World.laidAll Tryd.prog os Rows.deriveRowsRow.laid) #[.agg (bv (List.replicate 32 0)).toArray, .string .empty, .string .empty] 8 (World.laidAll_os _ _ _) (World.shaped_of_ZipB (by kernel_rfl) (by kernel_rfl)) (by kernel_rfl) (by kernel_rfl) (by kernel_rfl) (by rw [MakeChecks.laidMetH_plain _ _ _ (by kernel_rfl)]; exact laidMet_laidAll _ (by kernel_rfl) (by kernel_rfl))) ?_
  · rw [Tryd.params12] at hl
    match ds, hl with
    | [_, _, _], _ => rfl
  · intro W base args ds ps hval hA hw hL
    have hG := glb_of_laid (P := Tryd.prog) (g := 0) (t := 98) (e := 74) (by kernel_rfl) (by kernel_rfl) Tryd.underlying98 Tryd.underlying74 (by kernel_rfl) (by kernel_rfl) (by kernel_rfl) (show laidMet Tryd.prog (_ :: _) W from hL)
    rw [Tryd.params12] at hA hval hw
    obtain ⟨v0, vs0, d0, ds0, p0, q0, hargs, rfl, rfl, h0, r0⟩ := trodAll_cons hA
    obtain ⟨v1, vs1, d1, ds1, p1, q1, rfl, rfl, rfl, h1, r1⟩ := trodAll_cons r0
    obtain ⟨v2, vs2, d2, ds2, p2, q2, rfl, rfl, rfl, h2, r2⟩ := trodAll_cons r1
    obtain ⟨rfl, rfl, rfl⟩ := trodAll_nil r2
    obtain rfl : args = #[v0, v1, v2] := by cases args; simp_all
    obtain ⟨a0, rfl, ha0⟩ := arg_arr8 Tryd.underlying46 Tryd.underlying5 (by kernel_rfl) (by kernel_rfl) (hval 0 46 v0 rfl rfl) h0 (fun m hm => hw m (by simp only [DataW.weightsEach, List.mem_append]; exact .inl hm))
    obtain ⟨s1, rfl, hs1⟩ := arg_string Tryd.underlying9 (hval 1 9 v1 rfl rfl) h1 (fun m hm => hw m (by simp only [DataW.weightsEach, List.mem_append]; exact .inr (.inl hm)))
    obtain ⟨s2, rfl, hs2⟩ := arg_string Tryd.underlying9 (hval 2 9 v2 rfl rfl) h2 (fun m hm => hw m (by simp only [DataW.weightsEach, List.mem_append]; exact .inr (.inr (.inl hm))))
    exact deriveRows_c a0 s1 s2 W hG ha0

/-- The row's statement. -/
theorem deriveRows_row : Rows.DeriveRowsSaid :=
  OpenClaim.holds_of_wide 12 Tryd.f12 rfl rfl rfl rfl rfl rfl rfl ⟨rfl, rfl, rfl, rfl, rfl⟩ rfl rfl rfl rfl rfl (by kernel_rfl) Tryd.func12 (by kernel_rfl)
    (of_decide_eq_true (by kernel_rfl)) (by unfold Func.isWrapper; first | (rw [if_pos (by decide +kernel)]; kernel_rfl) | (rw [if_neg (by decide +kernel)]; exact ⟨rfl, rfl⟩))
    (fun os started H enc _ => deriveRows_lifted os started H enc)

/-- The statement: the row, its listed variable tied to the program's text. -/
theorem deriveRows_holds : Rows.DeriveRowsCardSaid :=
  Claim7.holds_tied_plain_at .later [] [.data] true (true, "6fc7720c1af2613af465590a04043e064699da455281c70e9b23793a063f4041") false
    deriveRows_row (fun _ h => by cases h) (by kernel_rfl) (fun _ h => by cases h) deriveRows_row_tie rfl ⟨rfl, rfl⟩ (by kernel_rfl) rfl
    (fun f fn hf hfn => by
      obtain rfl : f = 12 := Option.some.inj ((show Tryd.prog.funcNamed "casemate/casematelaw09.DeriveRows" = some 12 by kernel_rfl).symm.trans hf) |>.symm
      obtain rfl : fn = Tryd.f12 := (Option.some.inj (Tryd.func12.symm.trans hfn)).symm
      exact ⟨by kernel_rfl, fun j t ht => by
        rw [Tryd.params12] at ht
        have h : t ∈ [46, 9, 9] := by
          rcases j with _ | _ | _ | j
          · simp at ht; simp [ht]
          · simp at ht; simp [ht]
          · simp at ht; simp [ht]
          · simp at ht
        simp only [List.mem_cons, List.not_mem_nil, or_false] at h
        rcases h with rfl | rfl | rfl
        · exact (show Tryd.prog.wantsStandIn 46 = false by kernel_rfl)
        · exact (show Tryd.prog.wantsStandIn 9 = false by kernel_rfl)
        · exact (show Tryd.prog.wantsStandIn 9 = false by kernel_rfl)⟩)
    (by kernel_rfl)
#print axioms deriveRows_holds
end Go.Proofs.YthagednepehliaaDoor
