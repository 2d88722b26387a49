/- PbkdfPasses of casematelaw05 returns true for whatever text. No condition. -/
import Derived.Test.YthagednepehliaaDoorLp
import Derived.Test.YthagednepehliaaDoorTie
import Derived.Test.YthagednepehliaaDoorCards
namespace Go.Proofs.YthagednepehliaaDoor
open Go Go.Kx
open Go.ChangeShapes Go.WideShapes Go.ChangeAt Go.RowKit

theorem phr_c (s : ByteArray) (w : World) : Calls Tryd.prog 13 #[.string s] w fun e w' => ∃ v', e = .returned (.tuple #[v', .int .i64 (errP s.data.toList : Int)]) ∧ Mem w [] w' [own v' 1 (phrP s.data.toList).length (bv (phrP s.data.toList))] := by
  have hsz : s.data.toList.length = s.size := rfl
  by_cases h : s.size < 1 ∨ 48 < s.size
  · refine Calls.mono (pass_bad s w h) ?_
    rintro e w' ⟨rfl, hM⟩
    have e1 : errP s.data.toList = 2 := by unfold errP; rw [if_pos (by omega)]
    have e2 : phrP s.data.toList = [] := by unfold phrP; rw [if_pos (by omega)]
    rw [e1, e2]
    exact ⟨_, rfl, hM.addNil 1⟩
  · refine Calls.mono (pass_ok s w (by omega) (by omega)) ?_
    rintro e w' ⟨v', rfl, hM⟩
    have e1 : errP s.data.toList = 0 := by unfold errP; rw [if_neg (by omega)]
    have e2 : phrP s.data.toList = phrW s.data.toList := by unfold phrP; rw [if_neg (by omega)]
    rw [e1, e2]
    exact ⟨_, rfl, hM⟩
theorem rphr_ok (s : ByteArray) (w : World) (h1 : 1 ≤ s.size) (h2 : s.size ≤ 48) : Calls Tryd.prog 14 #[.string s] w fun e w' => ∃ v', e = .returned (.tuple #[v', .int .i64 0]) ∧ Mem w [] w' [own v' 1 (phrW s.data.toList).length (bv (phrW s.data.toList))] := by
  have hM := Mem.start0 w
  have hsz : s.data.toList.length = s.size := rfl
  refine f_enter 31 Tryd.func14 rfl rfl rfl ?_
  intro a hE
  replace hE : Env a 31 [(0, _)] := hE
  refine wp_seq_k (fun K1 hK1 => ?_)
  refine wp_plain [true, true] rfl rfl ?_
  refine s_assign hE rfl rfl ?_; clear hE a; intro a hE
  refine s_assign hE rfl rfl ?_; clear hE a; intro a hE
  refine q_nil ?_
  refine hK1 _ _ ?_
  refine wp_seq_k (fun K2 hK2 => ?_)
  refine wp_seq_k (fun K3 hK3 => ?_)
  refine wp_plain [true, true, true, true, true, true, true, true] rfl rfl ?_
  refine s_move hE rfl rfl ?_; clear hE a; intro a hE
  refine s_len_str hE rfl Tryd.underlying9 rfl ?_; clear hE a; intro a hE
  refine s_bin hE rfl rfl bin_eql rfl ?_; clear hE a; intro a hE
  refine s_move hE rfl rfl ?_; clear hE a; intro a hE
  replace hE := hE.cast 9 rfl (show _ = Value.bool false from (congrArg Value.bool (decide_eq_false (by omega))))
  refine g_yes hE rfl rfl ?_
  refine s_move hE rfl rfl ?_; clear hE a; intro a hE
  refine g_yes hE rfl rfl ?_
  refine s_len_str hE rfl Tryd.underlying9 rfl ?_; clear hE a; intro a hE
  refine g_yes hE rfl rfl ?_
  refine s_bin hE rfl rfl bin_gtr rfl ?_; clear hE a; intro a hE
  refine s_pickf hE rfl rfl rfl ?_; clear hE a; intro a hE
  refine q_nil ?_
  replace hE : Env a 31 [(0, _), (2, _), (3, _), (13, _)] := hE.sel [0, 2, 3, 13] rfl
  refine hK3 _ _ ?_
  replace hE := hE.cast 13 rfl (show _ = Value.bool false from (congrArg Value.bool (decide_eq_false (by omega))))
  refine wp_cond_false (hE.eval rfl) ?_
  refine wp_skip ?_
  refine hK2 _ _ ?_
  refine wp_seq_k (fun K4 hK4 => ?_)
  refine wp_plain [true, true, true, false, true] rfl rfl ?_
  refine s_move hE rfl rfl ?_; clear hE a; intro a hE
  refine s_len_str hE rfl Tryd.underlying9 rfl ?_; clear hE a; intro a hE
  refine s_conv hE rfl (cnv_int Tryd.underlying3 Tryd.underlying5 (wrap_u8_ofNat _)) rfl ?_; clear hE a; intro a hE
  refine s_buildSlice (xs := [.tmp 16]) (bv [UInt8.ofNat s.size]) hE hM sl22 rfl rfl rfl (by intro v hv; simp at hv; subst hv; rfl) rfl rfl rfl rfl ?_; clear hE a; intro a v17 w1 hE hM'
  clear hM; have hM := hM'; clear hM'
  refine s_assign hE rfl rfl ?_; clear hE a; intro a hE
  refine q_nil ?_
  replace hE : Env a 31 [(0, _), (2, _), (3, _), (4, _), (13, _)] := hE.sel [0, 2, 3, 4, 13] rfl
  refine hK4 _ _ ?_
  refine wp_seq_k (fun K5 hK5 => ?_)
  refine wp_seq_k (fun K6 hK6 => ?_)
  refine wp_plain [true] rfl rfl ?_
  refine s_assign hE rfl rfl ?_; clear hE a; intro a hE
  refine q_nil ?_
  refine hK6 _ _ ?_
  refine wp_block ?_
  refine c_loop (fun (i : Nat) a w' => i ≤ s.size ∧ ∃ vo, Env a 31 [(0, .string s), (4, vo), (5, .int .i64 (i : Int))] ∧ Mem w [] w' [own vo 1 (UInt8.ofNat s.size :: s.data.toList.take i).length (bv (UInt8.ofNat s.size :: s.data.toList.take i))]) (fun i => s.size - i) 0 ⟨Nat.zero_le _, _, hE.sel [0, 4, 5] rfl, hM⟩ ?_
  clear hE hM a; rintro i a w2 ⟨hi, vo, hE, hM⟩
  refine wp_seq_k (fun K7 hK7 => ?_)
  refine wp_seq_k (fun K8 hK8 => ?_)
  refine wp_plain [true, true, true, true] rfl rfl ?_
  refine s_move hE rfl rfl ?_; clear hE a; intro a hE
  refine s_move hE rfl rfl ?_; clear hE a; intro a hE
  refine s_len_str hE rfl Tryd.underlying9 rfl ?_; clear hE a; intro a hE
  refine s_bin hE rfl rfl bin_lss rfl ?_; clear hE a; intro a hE
  refine q_nil ?_
  replace hE : Env a 31 [(0, _), (4, _), (5, _), (21, _)] := hE.sel [0, 4, 5, 21] rfl
  refine hK8 _ _ ?_
  refine hE.split 21 rfl (fun hb21 hE' => ?_) (fun hb21 hE' => ?_)
  · replace hE := hE'; clear hE'
    replace hb21 := of_decide_eq_true hb21
    replace hb21 : i < s.size := by omega
    have hi4 : i < s.data.toList.length := hb21
    refine wp_cond_true (hE.eval rfl) ?_
    refine wp_skip ?_
    refine hK7 _ _ ?_
    refine wp_seq_k (fun K9 hK9 => ?_)
    refine wp_block ?_
    refine wp_plain [true, true, true, true, false, false, true] rfl rfl ?_
    refine s_move hE rfl rfl ?_; clear hE a; intro a hE
    refine s_move hE rfl rfl ?_; clear hE a; intro a hE
    refine s_move hE rfl rfl ?_; clear hE a; intro a hE
    refine s_indexStr (j := i) (b := s.data.toList.getD i 0) (l := s.data.toList) hE rfl rfl Tryd.underlying9 rfl (by first | rfl | omega) (get_getD hi4) rfl ?_; clear hE a; intro a hE
    refine s_buildSlice (xs := [.tmp 27]) (bv [s.data.toList.getD i 0]) hE hM sl22 rfl rfl rfl (by intro v hv; simp at hv; subst hv; rfl) rfl rfl rfl rfl ?_; clear hE a; intro a v28 w3 hE hM'
    clear hM; have hM := hM'; clear hM'
    replace hM : Mem _ _ w3 [_, _] := hM.pick [1, 0] rfl
    obtain ⟨cy, hy⟩ := own_rd (hM.get 1 rfl)
    refine s_append hE rfl rfl hM sl22 (Src.rd Tryd.underlying22 hy (bv_one _)) (len47 (by simp; omega)) (by simp; omega) (by intro X h; cases h) rfl ?_; clear hE a hy; intro a v29 w4 hE hM'
    clear hM; have hM := hM'; clear hM'
    replace hM : Mem _ _ w4 [_] := hM.pick [0] rfl
    replace hM := hM.ownEq (m' := (UInt8.ofNat s.size :: s.data.toList.take (i + 1)).length) (cs' := bv (UInt8.ofNat s.size :: s.data.toList.take (i + 1))) (by simp; omega) (by rw [take_snoc hi4, ← bv_append]; rfl)
    refine s_assign hE rfl rfl ?_; clear hE a; intro a hE
    refine q_nil ?_
    replace hE : Env a 31 [(0, _), (4, _), (5, _), (21, _)] := hE.sel [0, 4, 5, 21] rfl
    refine q_block_n ?_
    refine hK9 _ _ ?_
    refine wp_plain [true, true, true] rfl rfl ?_
    refine s_move hE rfl rfl ?_; clear hE a; intro a hE
    refine s_bin hE rfl rfl (bin_add (wrap_i64 (by omega) (by omega))) rfl ?_; clear hE a; intro a hE
    refine s_assign hE rfl rfl ?_; clear hE a; intro a hE
    refine q_nil ?_
    replace hE : Env a 31 [(0, _), (4, _), (5, _), (21, _)] := hE.sel [0, 4, 5, 21] rfl
    replace hE := hE.cast 5 rfl (show _ = Value.int .i64 ((i + 1 : Nat) : Int) from congrArg _ (by omega))
    exact ⟨i + 1, ⟨by omega, _, hE.sel [0, 4, 5] rfl, hM⟩, by omega⟩
  · replace hE := hE'; clear hE'
    replace hb21 := of_decide_eq_false hb21
    replace hb21 : ¬ i < s.size := by omega
    obtain rfl : i = s.size := by omega
    rw [List.take_of_length_le (Nat.le_of_eq hsz)] at hM
    refine wp_cond_false (hE.eval rfl) ?_
    refine wp_exit ?_
    refine q_then_e ?_
    refine q_then_e ?_
    refine q_block_x ?_
    refine hK5 _ _ ?_
    refine wp_seq_k (fun K9 hK9 => ?_)
    refine wp_plain [true, true, true] rfl rfl ?_
    refine s_move hE rfl rfl ?_; clear hE a; intro a hE
    refine s_assign hE rfl rfl ?_; clear hE a; intro a hE
    refine s_assign hE rfl rfl ?_; clear hE a; intro a hE
    refine q_nil ?_
    replace hE : Env a 31 [(0, _), (2, _), (3, _), (4, _), (5, _), (21, _)] := hE.sel [0, 2, 3, 4, 5, 21] rfl
    refine hK9 _ _ ?_
    refine wp_ret ?_
    refine f_ret2 hE rfl rfl rfl ?_
    exact ⟨_, rfl, hM⟩
theorem rphr_bad (s : ByteArray) (w : World) (h : s.size < 1 ∨ 48 < s.size) : Calls Tryd.prog 14 #[.string s] w fun e w' => e = .returned (.tuple #[.slice none 0 0, .int .i64 2]) ∧ Mem w [] w' [] := by
  have hM := Mem.start0 w
  refine f_enter 31 Tryd.func14 rfl rfl rfl ?_
  intro a hE
  replace hE : Env a 31 [(0, _)] := hE
  refine wp_seq_k (fun K1 hK1 => ?_)
  refine wp_plain [true, true] rfl rfl ?_
  refine s_assign hE rfl rfl ?_; clear hE a; intro a hE
  refine s_assign hE rfl rfl ?_; clear hE a; intro a hE
  refine q_nil ?_
  refine hK1 _ _ ?_
  refine wp_seq_k (fun K2 hK2 => ?_)
  refine wp_seq_k (fun K3 hK3 => ?_)
  refine wp_plain [true, true, true, true, true, true, true, true] rfl rfl ?_
  refine s_move hE rfl rfl ?_; clear hE a; intro a hE
  refine s_len_str hE rfl Tryd.underlying9 rfl ?_; clear hE a; intro a hE
  refine s_bin hE rfl rfl bin_eql rfl ?_; clear hE a; intro a hE
  refine s_move hE rfl rfl ?_; clear hE a; intro a hE
  refine hE.split 9 rfl (fun hb9 hE' => ?_) (fun hb9 hE' => ?_)
  · replace hE := hE'; clear hE'
    replace hb9 := of_decide_eq_true hb9
    refine g_no (b := true) hE rfl rfl rfl ?_; clear hE a; intro a hE
    refine g_no (b := true) hE rfl rfl rfl ?_; clear hE a; intro a hE
    refine g_no (b := true) hE rfl rfl rfl ?_; clear hE a; intro a hE
    refine s_pickt hE rfl rfl rfl ?_; clear hE a; intro a hE
    refine q_nil ?_
    replace hE : Env a 31 [(0, _), (2, _), (3, _), (13, _)] := hE.sel [0, 2, 3, 13] rfl
    refine hK3 _ _ ?_
    refine wp_cond_true (hE.eval rfl) ?_
    refine wp_seq_k (fun K4 hK4 => ?_)
    refine wp_plain [true, true] rfl rfl ?_
    refine s_assign hE rfl rfl ?_; clear hE a; intro a hE
    refine s_assign hE rfl rfl ?_; clear hE a; intro a hE
    refine q_nil ?_
    refine hK4 _ _ ?_
    refine wp_ret ?_
    refine q_then_r ?_
    refine f_ret2 hE rfl rfl rfl ?_
    exact ⟨rfl, hM⟩
  · replace hE := hE'; clear hE'
    replace hb9 := of_decide_eq_false hb9
    refine g_yes hE rfl rfl ?_
    refine s_move hE rfl rfl ?_; clear hE a; intro a hE
    refine g_yes hE rfl rfl ?_
    refine s_len_str hE rfl Tryd.underlying9 rfl ?_; clear hE a; intro a hE
    refine g_yes hE rfl rfl ?_
    refine s_bin hE rfl rfl bin_gtr rfl ?_; clear hE a; intro a hE
    refine s_pickf hE rfl rfl rfl ?_; clear hE a; intro a hE
    refine q_nil ?_
    replace hE : Env a 31 [(0, _), (2, _), (3, _), (13, _)] := hE.sel [0, 2, 3, 13] rfl
    refine hK3 _ _ ?_
    replace hE := hE.cast 13 rfl (show _ = Value.bool true from (congrArg Value.bool (decide_eq_true (by omega))))
    refine wp_cond_true (hE.eval rfl) ?_
    refine wp_seq_k (fun K4 hK4 => ?_)
    refine wp_plain [true, true] rfl rfl ?_
    refine s_assign hE rfl rfl ?_; clear hE a; intro a hE
    refine s_assign hE rfl rfl ?_; clear hE a; intro a hE
    refine q_nil ?_
    refine hK4 _ _ ?_
    refine wp_ret ?_
    refine q_then_r ?_
    refine f_ret2 hE rfl rfl rfl ?_
    exact ⟨rfl, hM⟩
theorem rphr_c (s : ByteArray) (w : World) : Calls Tryd.prog 14 #[.string s] w fun e w' => ∃ v', e = .returned (.tuple #[v', .int .i64 (errP s.data.toList : Int)]) ∧ Mem w [] w' [own v' 1 (phrP s.data.toList).length (bv (phrP s.data.toList))] := by
  have hsz : s.data.toList.length = s.size := rfl
  by_cases h : s.size < 1 ∨ 48 < s.size
  · refine Calls.mono (rphr_bad s w h) ?_
    rintro e w' ⟨rfl, hM⟩
    have e1 : errP s.data.toList = 2 := by unfold errP; rw [if_pos (by omega)]
    have e2 : phrP s.data.toList = [] := by unfold phrP; rw [if_pos (by omega)]
    rw [e1, e2]
    exact ⟨_, rfl, hM.addNil 1⟩
  · refine Calls.mono (rphr_ok s w (by omega) (by omega)) ?_
    rintro e w' ⟨v', rfl, hM⟩
    have e1 : errP s.data.toList = 0 := by unfold errP; rw [if_neg (by omega)]
    have e2 : phrP s.data.toList = phrW s.data.toList := by unfold phrP; rw [if_neg (by omega)]
    rw [e1, e2]
    exact ⟨_, rfl, hM⟩
theorem pbkdfPasses_c (s : ByteArray) (w : World) (hG : (glb 0).holds w) : Calls Tryd.prog 3 #[.string s] w fun e w' => e = .returned (.bool true) ∧ Mem w [] w' [] := by
  have hM := Mem.startR1 hG rfl
  refine f_enter 30 Tryd.func3 rfl rfl rfl ?_
  intro a hE
  replace hE : Env a 30 [(0, _)] := hE
  refine wp_seq_k (fun K1 hK1 => ?_)
  refine wp_plain [true] rfl rfl ?_
  refine s_assign hE rfl rfl ?_; clear hE a; intro a hE
  refine q_nil ?_
  refine hK1 _ _ ?_
  refine wp_seq_k (fun K2 hK2 => ?_)
  refine wp_plain [true, false, true, true, true, true, true] rfl rfl ?_
  refine s_move hE rfl rfl ?_; clear hE a; intro a hE
  refine s_call hE rfl Tryd.call13 (phr_c s _) rfl ?_
  rintro e w1 ⟨vp, rfl, hN⟩
  refine ⟨_, rfl, trivial, ?_⟩; clear hE a; intro a hE
  replace hM : Mem _ _ w1 [_, _] := hM.call0 hN ⟨rfl, trivial⟩; clear hN
  refine s_move hE rfl rfl ?_; clear hE a; intro a hE
  refine s_extract hE rfl rfl rfl ?_; clear hE a; intro a hE
  refine s_extract hE rfl rfl rfl ?_; clear hE a; intro a hE
  refine s_assign hE rfl rfl ?_; clear hE a; intro a hE
  refine s_assign hE rfl rfl ?_; clear hE a; intro a hE
  refine q_nil ?_
  replace hE : Env a 30 [(0, _), (2, _), (3, _), (4, _)] := hE.sel [0, 2, 3, 4] rfl
  refine hK2 _ _ ?_
  refine wp_seq_k (fun K3 hK3 => ?_)
  refine wp_plain [true, false, true, true, true, true, true] rfl rfl ?_
  refine s_move hE rfl rfl ?_; clear hE a; intro a hE
  refine s_call hE rfl Tryd.call14 (rphr_c s _) rfl ?_
  rintro e w2 ⟨vq, rfl, hN⟩
  refine ⟨_, rfl, trivial, ?_⟩; clear hE a; intro a hE
  replace hM : Mem _ _ w2 [_, _, _] := hM.call0 hN ⟨rfl, trivial⟩; clear hN
  refine s_move hE rfl rfl ?_; clear hE a; intro a hE
  refine s_extract hE rfl rfl rfl ?_; clear hE a; intro a hE
  refine s_extract hE rfl rfl rfl ?_; clear hE a; intro a hE
  refine s_assign hE rfl rfl ?_; clear hE a; intro a hE
  refine s_assign hE rfl rfl ?_; clear hE a; intro a hE
  refine q_nil ?_
  replace hE : Env a 30 [(0, _), (2, _), (3, _), (4, _), (5, _), (6, _)] := hE.sel [0, 2, 3, 4, 5, 6] rfl
  refine hK3 _ _ ?_
  refine wp_seq_k (fun K4 hK4 => ?_)
  refine wp_plain [true, true, true, true, true, true, true, true, true, true, true, false, true, true] rfl rfl ?_
  refine s_move hE rfl rfl ?_; clear hE a; intro a hE
  obtain ⟨cs18, hs18⟩ := own_rd (hM.get 1 rfl)
  refine s_toStr hE rfl Tryd.underlying22 Tryd.underlying5 Tryd.underlying9 hs18 (by intro X h; cases h) rfl ?_; clear hE a; intro a hE
  refine s_move hE rfl rfl ?_; clear hE a; intro a hE
  obtain ⟨cs20, hs20⟩ := own_rd (hM.get 0 rfl)
  refine s_toStr hE rfl Tryd.underlying22 Tryd.underlying5 Tryd.underlying9 hs20 (by intro X h; cases h) rfl ?_; clear hE a; intro a hE
  refine s_bin hE rfl rfl bins_str.1 rfl ?_; clear hE a; intro a hE
  refine s_move hE rfl rfl ?_; clear hE a; intro a hE
  replace hE := hE.cast 22 rfl (show _ = Value.bool true from (congrArg Value.bool (by simp)))
  refine g_yes hE rfl rfl ?_
  refine s_move hE rfl rfl ?_; clear hE a; intro a hE
  refine g_yes hE rfl rfl ?_
  refine s_move hE rfl rfl ?_; clear hE a; intro a hE
  refine g_yes hE rfl rfl ?_
  refine s_bin hE rfl rfl bin_eql rfl ?_; clear hE a; intro a hE
  refine s_pickt hE rfl rfl rfl ?_; clear hE a; intro a hE
  refine s_move hE rfl rfl ?_; clear hE a; intro a hE
  replace hE := hE.cast 27 rfl (show _ = Value.bool true from (congrArg Value.bool (by simp)))
  refine g_yes hE rfl rfl ?_
  refine s_call hE rfl Tryd.call15 (awake_c _ (hM.get 2 rfl)) rfl ?_
  rintro e w3 ⟨rfl, hN⟩
  refine ⟨_, rfl, trivial, ?_⟩; clear hE a; intro a hE
  replace hM : Mem _ _ w3 [_, _, _] := hM.call0 hN trivial; clear hN
  refine s_pickt hE rfl rfl rfl ?_; clear hE a; intro a hE
  refine s_assign hE rfl rfl ?_; clear hE a; intro a hE
  refine q_nil ?_
  replace hE : Env a 30 [(0, _), (2, _)] := hE.sel [0, 2] rfl
  refine hK4 _ _ ?_
  refine wp_ret ?_
  refine f_ret1 hE rfl rfl ?_
  exact ⟨rfl, hM.nil⟩
set_option maxRecDepth 100000 in
theorem pbkdfPasses_lifted (os : Os) (started : os.Started) (H : Type) (enc : TypeId × Value → H) :
    ReturnsInHanded {} Tryd.checked os 3 .any (fun w args => (Rows.pbkdfPassesSpec.pre enc Tryd.prog Tryd.f3 [] false w args ∧ laidMetH Tryd.prog Rows.pbkdfPassesRow.laid w) ∧ sizedMet enc Tryd.prog Tryd.f3 (OpenSpec.ofChange Rows.pbkdfPassesSpec) false w args) (Rows.pbkdfPassesSpec.post enc Tryd.prog Tryd.f3 false true false false) := by
  refine law_liftedL (C := Tryd.checked) (fn := Tryd.f3) (l := Rows.pbkdfPassesRow.laid) (by kernel_rfl) started (by kernel_rfl) Tryd.func3 rfl (fun ds hl => ?_) rfl Tryd.underlying4 (by kernel_rfl) (of_decide_eq_true (by kernel_rfl)) (by kernel_rfl)
    (ChangeSpec.witness_shaped (enc := enc) (C := Tryd.checked) (os := os) (X := fun w _ => laidMetH Tryd.prog Rows.pbkdfPassesRow.laid w) false (World.laidAll Tryd.prog os Rows.pbkdfPassesRow.laid) #[.string .empty] 8 (World.laidAll_os _ _ _) (World.shaped_of_ZipB (by kernel_rfl) (by kernel_rfl)) (by kernel_rfl) (by kernel_rfl) (by kernel_rfl) (by rw [MakeChecks.laidMetH_plain _ _ _ (by kernel_rfl)]; exact laidMet_laidAll _ (by kernel_rfl) (by kernel_rfl))) ?_
  · rw [Tryd.params3] at hl
    match ds, hl with
    | [_], _ => rfl
  · intro W base args ds ps hval hA hw hL
    have hG := glb_of_laid (P := Tryd.prog) (g := 0) (t := 98) (e := 74) (by kernel_rfl) (by kernel_rfl) Tryd.underlying98 Tryd.underlying74 (by kernel_rfl) (by kernel_rfl) (by kernel_rfl) (show laidMet Tryd.prog (_ :: _) W from hL)
    rw [Tryd.params3] at hA hval hw
    obtain ⟨v0, vs0, d0, ds0, p0, q0, hargs, rfl, rfl, h0, r0⟩ := trodAll_cons hA
    obtain ⟨rfl, rfl, rfl⟩ := trodAll_nil r0
    obtain rfl : args = #[v0] := by cases args; simp_all
    obtain ⟨s0, rfl, hs0⟩ := arg_string Tryd.underlying9 (hval 0 9 v0 rfl rfl) h0 (fun m hm => hw m (by simp only [DataW.weightsEach, List.mem_append]; exact .inl hm))
    exact pbkdfPasses_c s0 W hG

/-- The row's statement. -/
theorem pbkdfPasses_row : Rows.PbkdfPassesSaid :=
  OpenClaim.holds_of_wide 3 Tryd.f3 rfl rfl rfl rfl rfl rfl rfl ⟨rfl, rfl, rfl, rfl, rfl⟩ rfl rfl rfl rfl rfl (by kernel_rfl) Tryd.func3 (by kernel_rfl)
    (of_decide_eq_true (by kernel_rfl)) (by unfold Func.isWrapper; first | (rw [if_pos (by decide +kernel)]; kernel_rfl) | (rw [if_neg (by decide +kernel)]; exact ⟨rfl, rfl⟩))
    (fun os started H enc _ => pbkdfPasses_lifted os started H enc)

/-- The statement: the row, its listed variable tied to the program's text. -/
theorem pbkdfPasses_holds : Rows.PbkdfPassesCardSaid :=
  Claim7.holds_tied_plain_at .later [] [.data] true (true, "6fc7720c1af2613af465590a04043e064699da455281c70e9b23793a063f4041") false
    pbkdfPasses_row (fun _ h => by cases h) (by kernel_rfl) (fun _ h => by cases h) pbkdfPasses_row_tie rfl ⟨rfl, rfl⟩ (by kernel_rfl) rfl
    (fun f fn hf hfn => by
      obtain rfl : f = 3 := Option.some.inj ((show Tryd.prog.funcNamed "casemate/casematelaw05.PbkdfPasses" = some 3 by kernel_rfl).symm.trans hf) |>.symm
      obtain rfl : fn = Tryd.f3 := (Option.some.inj (Tryd.func3.symm.trans hfn)).symm
      exact ⟨by kernel_rfl, fun j t ht => by
        rw [Tryd.params3] at ht
        have h : t ∈ [9] := by
          rcases j with _ | j
          · simp at ht; simp [ht]
          · simp at ht
        simp only [List.mem_cons, List.not_mem_nil, or_false] at h
        rcases h with rfl
        · exact (show Tryd.prog.wantsStandIn 9 = false by kernel_rfl)⟩)
    (by kernel_rfl)
#print axioms pbkdfPasses_holds
end Go.Proofs.YthagednepehliaaDoor
