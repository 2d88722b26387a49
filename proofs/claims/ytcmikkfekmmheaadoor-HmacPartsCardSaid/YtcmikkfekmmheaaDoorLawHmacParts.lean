/- HmacParts of casematelaw04 returns true for whatever key and parts; they read behind the call as before. No condition. -/
import Derived.Test.YtcmikkfekmmheaaDoorLr
import Derived.Test.YtcmikkfekmmheaaDoorTie
import Derived.Test.YtcmikkfekmmheaaDoorCards
namespace Go.Proofs.YtcmikkfekmmheaaDoor
open Go Go.Kx
open Go.ChangeShapes Go.WideShapes Go.ChangeAt Go.RowKit
theorem eqa23 : ∀ {a b : List UInt8}, a.length = 32 → b.length = 32 → Bin Tryd.prog .eql 23 (.agg (bv a).toArray) (.agg (bv b).toArray) (.bool (decide (a = b))) ∧ Bin Tryd.prog .neq 23 (.agg (bv a).toArray) (.agg (bv b).toArray) (.bool (!decide (a = b))) := fun ha hb => bins_arr8 Tryd.underlying23 (by kernel_rfl) Tryd.underlying5 (by kernel_rfl) (by kernel_rfl) ha hb
theorem hmacParts_c (v0 v1 : Value) (b0 : List UInt8) (ps : List (List UInt8)) (vs : List Value) (bb : List Nat) (c0 c1 : Nat) (w : World) (hG : (glb 0).holds w) (hr0 : (rd v0 1 b0.length c0 (bv b0)).holds w) (h1 : (rd v1 1 ps.length c1 vs).holds w) (hp : (rdv bb vs ps).holds w) (hl : ps.length ≤ 140737488355328) : Calls Tryd.prog 8 #[v0, v1] w fun e w' => e = .returned (.bool true) ∧ Mem w [] w' [] := by
  have hM : Mem w [] w [rd v0 1 b0.length c0 (bv b0), rd v1 1 ps.length c1 vs, rdv bb vs ps, glb 0] := Mem.startR w (fun g hg => by
    simp only [List.mem_cons, List.not_mem_nil, or_false] at hg
    rcases hg with rfl | rfl | rfl | rfl
    · exact ⟨hr0, rfl⟩
    · exact ⟨h1, rfl⟩
    · exact ⟨hp, rfl⟩
    · exact ⟨hG, rfl⟩)
  have hvl : vs.length = ps.length := hp.2.1
  refine f_enter 43 Tryd.func8 rfl rfl rfl ?_
  intro a hE
  replace hE : Env a 43 [(0, _), (1, _)] := hE
  refine wp_seq_k (fun K1 hK1 => ?_)
  refine wp_plain [true] rfl rfl ?_
  refine s_assign hE rfl rfl ?_; clear hE a; intro a hE
  refine q_nil ?_
  refine hK1 _ _ ?_
  refine wp_seq_k (fun K2 hK2 => ?_)
  refine wp_plain [true, false, true] rfl rfl ?_
  refine s_move hE rfl rfl ?_; clear hE a; intro a hE
  refine s_call hE rfl Tryd.call18 (cut_c b0 v0 c0 _ (hM.get 0 rfl)) rfl ?_
  rintro e w1 ⟨vK, cK, rfl, hvb, hrB, hN⟩
  refine ⟨_, rfl, trivial, ?_⟩; clear hE a; intro a hE
  replace hM : Mem _ _ w1 [_, _, _, _] := hM.call0 hN trivial; clear hN
  replace hM := hM.addPart 0 rfl hrB hvb; clear hrB hvb
  have hlK : (b0.take 1000).length ≤ 1000 := by simp; omega
  generalize b0.take 1000 = BK at hM hlK
  refine s_assign hE rfl rfl ?_; clear hE a; intro a hE
  refine q_nil ?_
  replace hE : Env a 43 [(0, _), (1, _), (4, _)] := hE.sel [0, 1, 4] rfl
  refine hK2 _ _ ?_
  refine wp_seq_k (fun K3 hK3 => ?_)
  refine wp_plain [true] rfl rfl ?_
  refine s_assign hE rfl rfl ?_; clear hE a; intro a hE
  replace hM := (hM.rdvNil (hM.get 3 rfl).1 (by intro b _ e he; simp only [List.mem_cons, List.not_mem_nil, or_false] at he; rcases he with rfl | rfl | rfl | rfl | rfl <;> exact List.not_mem_nil)).addNil 1
  refine q_nil ?_
  refine hK3 _ _ ?_
  refine wp_seq_k (fun K4 hK4 => ?_)
  refine wp_seq_k (fun K5 hK5 => ?_)
  refine wp_plain [true] rfl rfl ?_
  refine s_assign hE rfl rfl ?_; clear hE a; intro a hE
  refine q_nil ?_
  refine hK5 _ _ ?_
  refine wp_block ?_
  replace hM : Mem _ _ w1 [_, _, _, _, _, _, _] := hM.pick [0, 1, 2, 4, 5, 6, 3] rfl
  replace hM : Mem _ _ w1 [_, _, _, _, _, _] := hM.pick [0, 1, 2, 3, 4, 5] rfl
  refine c_loop (fun (i : Nat) a w' => i ≤ ps.length ∧ i ≤ 20 ∧ ∃ pv us, Env a 43 [(0, vK), (1, v1), (5, pv), (6, .int .i64 (i : Int))] ∧ Mem w [] w' [own pv 1 i us, rdv bb us (clip 200 ps i), rd vK 1 BK.length cK (bv BK), rd v1 1 ps.length c1 vs, rdv bb vs ps, glb 0]) (fun i => ps.length - i) 0 ⟨Nat.zero_le _, by omega, _, _, hE.sel [0, 1, 5, 6] rfl, hM⟩ ?_
  clear hE hM a; rintro i a w2 ⟨hi, hi20, pv, us, hE, hM⟩
  refine wp_seq_k (fun K6 hK6 => ?_)
  refine wp_seq_k (fun K7 hK7 => ?_)
  refine wp_plain [true, true, true, true, true, true, true, true] rfl rfl ?_
  refine s_move hE rfl rfl ?_; clear hE a; intro a hE
  refine s_move hE rfl rfl ?_; clear hE a; intro a hE
  refine s_len hE rfl Tryd.underlying40 (rd_slice (hM.get 3 rfl)) rfl ?_; clear hE a; intro a hE
  refine s_bin hE rfl rfl bin_lss rfl ?_; clear hE a; intro a hE
  refine s_move hE rfl rfl ?_; clear hE a; intro a hE
  refine hE.split 13 rfl (fun hb13 hE' => ?_) (fun hb13 hE' => ?_)
  · replace hE := hE'; clear hE'
    replace hb13 := of_decide_eq_true hb13
    refine g_yes hE rfl rfl ?_
    refine s_move hE rfl rfl ?_; clear hE a; intro a hE
    refine g_yes hE rfl rfl ?_
    refine s_bin hE rfl rfl bin_lss rfl ?_; clear hE a; intro a hE
    refine s_pickt hE rfl rfl rfl ?_; clear hE a; intro a hE
    refine q_nil ?_
    replace hE : Env a 43 [(0, _), (1, _), (5, _), (6, _), (16, _)] := hE.sel [0, 1, 5, 6, 16] rfl
    refine hK7 _ _ ?_
    refine hE.split 16 rfl (fun hb16 hE' => ?_) (fun hb16 hE' => ?_)
    · replace hE := hE'; clear hE'
      replace hb16 := of_decide_eq_true hb16
      refine wp_cond_true (hE.eval rfl) ?_
      refine wp_skip ?_
      refine hK6 _ _ ?_
      refine wp_seq_k (fun K8 hK8 => ?_)
      refine wp_block ?_
      refine wp_drawnM2 hM (by kernel_rfl) (fun _ => False) (fun _ => True) [(0, true), (1, true), (2, true), (3, true), (4, true), (5, true), (6, true), (7, true), (8, true), (9, true), (10, true), (11, true), (12, false)] [(13, false), (14, true)] [(12, [(13, 12), (14, 12)]), (13, [(14, 13)]), (3, [(4, 3), (11, 4), (12, 11), (13, 12), (14, 3)]), (4, [(11, 4), (12, 11), (13, 12), (14, 4)]), (7, [(8, 7), (9, 8), (10, 9), (11, 10), (12, 11), (13, 12), (14, 7)]), (8, [(9, 8), (10, 9), (11, 10), (12, 11), (13, 12), (14, 8)]), (9, [(10, 9), (11, 10), (12, 11), (13, 12), (14, 9)]), (10, [(11, 10), (12, 11), (13, 12), (14, 10)]), (11, [(12, 11), (13, 12), (14, 11)])] (by kernel_rfl) (by kernel_rfl) rfl rfl ?_
      intro w3 hM' hww3; clear hM; have hM := hM'; clear hM'
      refine s_move hE rfl rfl ?_; clear hE a; intro a hE
      refine s_move hE rfl rfl ?_; clear hE a; intro a hE
      refine s_move hE rfl rfl ?_; clear hE a; intro a hE
      refine s_indexRd (j := i) hE rfl (hM.get 3 rfl) rfl slt40 (by first | rfl | omega) (by first | omega | (simp; omega) | decide) rfl ?_; clear hE a; intro a p22 hE hc22 hp22
      rw [elem1 (by omega)] at hc22
      refine s_loadAt1 hE rfl hc22 one26 (by intro X h; cases h; simp) rfl ?_; clear hE a; intro a hE
      refine s_move hE rfl rfl ?_; clear hE a; intro a hE
      refine s_move hE rfl rfl ?_; clear hE a; intro a hE
      refine s_indexRd (j := i) hE rfl (hM.get 3 rfl) rfl slt40 (by first | rfl | omega) (by first | omega | (simp; omega) | decide) rfl ?_; clear hE a; intro a p26 hE hc26 hp26
      rw [elem1 (by omega)] at hc26
      refine s_loadAt1 hE rfl hc26 one26 (by intro X h; cases h; simp) rfl ?_; clear hE a; intro a hE
      refine s_len hE rfl Tryd.underlying26 (rd_slice (Exists.choose_spec (rdv_get (hM.get 4 rfl) (i := i) (by omega)))) rfl ?_; clear hE a; intro a hE
      refine s_min hE rfl rfl rfl ?_; clear hE a; intro a hE
      replace hE := hE.cast 29 rfl (show _ = Value.int .i64 ((min (ps.getD i []).length 200 : Nat) : Int) from congrArg _ (by split <;> omega))
      obtain ⟨cg, hgb, hg⟩ := rdv_getB (hM.get 4 rfl) (i := i) (by omega)
      have hlg := rd_len hg
      refine s_slice (l := 0) (h := min (ps.getD i []).length 200) (mx' := cg) hE rfl hg slt26 rfl ⟨_, rfl⟩ rfl (by simp) (by omega) (by omega) (by omega) (by omega) rfl ?_; clear hE a; intro a v30 hE hr30 hvb30
      replace hr30 := rd_cut rfl hr30
      have hb30 : ∀ x, x ∈ rdB v30 cg → x ∈ bb := fun x hx => hgb x (hvb30 x hx)
      replace hM := hM.addFrom 4 rfl hr30 hb30 rfl
      have h30 := rd_one (hM.get 0 rfl)
      refine s_buildSlice (xs := [.tmp 30]) ([v30]) hE hM sl40 rfl rfl rfl (by intro v hv; rw [List.mem_singleton.1 hv, h30.1]; rfl) (by simp [h30.1]) rfl rfl rfl ?_; clear hE a; intro a v31 w4 hE hM'
      clear hM; have hM := hM'; clear hM'
      refine q_nil (q_ph ?_)
      replace hM : Mem _ _ w4 [_, _, _, _, _, _, _, _] := hM.pick [2, 0, 1, 3, 4, 5, 6, 7] rfl
      obtain ⟨cy, hy⟩ := own_rd (hM.get 1 rfl)
      refine s_append hE rfl rfl hM sl40 (Src.rd Tryd.underlying40 hy (one1 h30.2)) (len47 (by omega)) (by omega) (by intro X h; cases h; first | (simp; done) | simp [valBlocks]) rfl ?_; clear hE a hy; intro a v32 w5 hE hM'
      clear hM; have hM := hM'; clear hM'
      replace hM : Mem _ _ w5 [_, _, _, _, _, _, _] := hM.pick [0, 2, 3, 4, 5, 6, 7] rfl
      replace hM : Mem _ _ w5 [_, _, _, _, _, _, _] := hM.pick [1, 2, 0, 3, 4, 5, 6] rfl
      replace hM := hM.rdvSnoc hb30
      refine s_assign hE rfl rfl ?_; clear hE a; intro a hE
      refine q_nil ?_
      replace hE : Env a 43 [(0, _), (1, _), (5, _), (6, _), (16, _)] := hE.sel [0, 1, 5, 6, 16] rfl
      refine q_block_n ?_
      refine hK8 _ _ ?_
      refine wp_plain [true, true, true] rfl rfl ?_
      refine s_move hE rfl rfl ?_; clear hE a; intro a hE
      refine s_bin hE rfl rfl (bin_add (wrap_i64 (by omega) (by omega))) rfl ?_; clear hE a; intro a hE
      refine s_assign hE rfl rfl ?_; clear hE a; intro a hE
      refine q_nil ?_
      replace hE : Env a 43 [(0, _), (1, _), (5, _), (6, _), (16, _)] := hE.sel [0, 1, 5, 6, 16] rfl
      replace hE := hE.cast 6 rfl (show _ = Value.int .i64 ((i + 1 : Nat) : Int) from congrArg _ (by omega))
      replace hM : Mem _ _ w5 [_, _, _, _, _, _] := hM.pick [1, 0, 2, 3, 4, 5] rfl
      refine ⟨i + 1, ⟨by omega, by omega, _, us ++ [v30], hE.sel [0, 1, 5, 6] rfl, ?_⟩, by omega⟩
      rw [clip_succ (by omega)]; exact hM
    · replace hE := hE'; clear hE'
      replace hb16 := of_decide_eq_false hb16
      have hql := clip_length (k := 200) hi
      have hqf := clip_flat (k := 200) (ps := ps) hi20
      generalize clip 200 ps i = qs at hM hql hqf
      refine wp_cond_false (hE.eval rfl) ?_
      refine wp_exit ?_
      refine q_then_e ?_
      refine q_then_e ?_
      refine q_block_x ?_
      refine hK4 _ _ ?_
      refine wp_seq_k (fun K8 hK8 => ?_)
      refine wp_plain [true, true, false, true, true, false, true, true, false, true, true] rfl rfl ?_
      refine s_move hE rfl rfl ?_; clear hE a; intro a hE
      refine s_move hE rfl rfl ?_; clear hE a; intro a hE
      obtain ⟨cl35, hl35⟩ := own_rd (hM.get 0 rfl)
      refine s_call hE rfl Tryd.call21 (parts_c vK pv BK qs us bb cK cl35 _ (hM.get 5 rfl) (hM.get 2 rfl) (by rw [hql]; exact hl35) (hM.get 1 rfl) (by omega) (by omega) (by omega)) rfl ?_
      rintro e w3 ⟨rfl, hN⟩
      refine ⟨_, rfl, trivial, ?_⟩; clear hE a; intro a hE
      replace hM : Mem _ _ w3 [_, _, _, _, _, _] := hM.call0 hN trivial; clear hN
      refine s_move hE rfl rfl ?_; clear hE a; intro a hE
      refine s_move hE rfl rfl ?_; clear hE a; intro a hE
      obtain ⟨cl38, hl38⟩ := own_rd (hM.get 0 rfl)
      refine s_call hE rfl Tryd.call25 (rparts_c vK pv BK qs us bb cK cl38 _ (hM.get 2 rfl) (by rw [hql]; exact hl38) (hM.get 1 rfl) (by omega) (by omega) (by omega)) rfl ?_
      rintro e w4 ⟨rfl, hN⟩
      refine ⟨_, rfl, trivial, ?_⟩; clear hE a; intro a hE
      replace hM : Mem _ _ w4 [_, _, _, _, _, _] := hM.call0 hN trivial; clear hN
      refine s_bin hE rfl rfl (eqa23 (by first | simp | assumption) (by first | simp | assumption)).1 rfl ?_; clear hE a; intro a hE
      refine s_move hE rfl rfl ?_; clear hE a; intro a hE
      replace hE := hE.cast 40 rfl (show _ = Value.bool true from (congrArg Value.bool (by simp)))
      refine g_yes hE rfl rfl ?_
      refine s_call hE rfl Tryd.call17 (works_c _ (hM.get 5 rfl)) rfl ?_
      rintro e w5 ⟨rfl, hN⟩
      refine ⟨_, rfl, trivial, ?_⟩; clear hE a; intro a hE
      replace hM : Mem _ _ w5 [_, _, _, _, _, _] := hM.call0 hN trivial; clear hN
      refine s_pickt hE rfl rfl rfl ?_; clear hE a; intro a hE
      refine s_assign hE rfl rfl ?_; clear hE a; intro a hE
      refine q_nil ?_
      replace hE : Env a 43 [(0, _), (1, _), (4, _), (5, _), (6, _), (16, _)] := hE.sel [0, 1, 4, 5, 6, 16] rfl
      refine hK8 _ _ ?_
      refine wp_ret ?_
      refine f_ret1 hE rfl rfl ?_
      exact ⟨by first | rfl | simp, hM.nil⟩
  · replace hE := hE'; clear hE'
    replace hb13 := of_decide_eq_false hb13
    have hql := clip_length (k := 200) hi
    have hqf := clip_flat (k := 200) (ps := ps) hi20
    generalize clip 200 ps i = qs at hM hql hqf
    refine g_no (b := false) hE rfl rfl rfl ?_; clear hE a; intro a hE
    refine g_no (b := false) hE rfl rfl rfl ?_; clear hE a; intro a hE
    refine s_pickf hE rfl rfl rfl ?_; clear hE a; intro a hE
    refine q_nil ?_
    replace hE : Env a 43 [(0, _), (1, _), (5, _), (6, _), (16, _)] := hE.sel [0, 1, 5, 6, 16] rfl
    refine hK7 _ _ ?_
    refine wp_cond_false (hE.eval rfl) ?_
    refine wp_exit ?_
    refine q_then_e ?_
    refine q_then_e ?_
    refine q_block_x ?_
    refine hK4 _ _ ?_
    refine wp_seq_k (fun K8 hK8 => ?_)
    refine wp_plain [true, true, false, true, true, false, true, true, false, true, true] rfl rfl ?_
    refine s_move hE rfl rfl ?_; clear hE a; intro a hE
    refine s_move hE rfl rfl ?_; clear hE a; intro a hE
    obtain ⟨cl35, hl35⟩ := own_rd (hM.get 0 rfl)
    refine s_call hE rfl Tryd.call21 (parts_c vK pv BK qs us bb cK cl35 _ (hM.get 5 rfl) (hM.get 2 rfl) (by rw [hql]; exact hl35) (hM.get 1 rfl) (by omega) (by omega) (by omega)) rfl ?_
    rintro e w3 ⟨rfl, hN⟩
    refine ⟨_, rfl, trivial, ?_⟩; clear hE a; intro a hE
    replace hM : Mem _ _ w3 [_, _, _, _, _, _] := hM.call0 hN trivial; clear hN
    refine s_move hE rfl rfl ?_; clear hE a; intro a hE
    refine s_move hE rfl rfl ?_; clear hE a; intro a hE
    obtain ⟨cl38, hl38⟩ := own_rd (hM.get 0 rfl)
    refine s_call hE rfl Tryd.call25 (rparts_c vK pv BK qs us bb cK cl38 _ (hM.get 2 rfl) (by rw [hql]; exact hl38) (hM.get 1 rfl) (by omega) (by omega) (by omega)) rfl ?_
    rintro e w4 ⟨rfl, hN⟩
    refine ⟨_, rfl, trivial, ?_⟩; clear hE a; intro a hE
    replace hM : Mem _ _ w4 [_, _, _, _, _, _] := hM.call0 hN trivial; clear hN
    refine s_bin hE rfl rfl (eqa23 (by first | simp | assumption) (by first | simp | assumption)).1 rfl ?_; clear hE a; intro a hE
    refine s_move hE rfl rfl ?_; clear hE a; intro a hE
    replace hE := hE.cast 40 rfl (show _ = Value.bool true from (congrArg Value.bool (by simp)))
    refine g_yes hE rfl rfl ?_
    refine s_call hE rfl Tryd.call17 (works_c _ (hM.get 5 rfl)) rfl ?_
    rintro e w5 ⟨rfl, hN⟩
    refine ⟨_, rfl, trivial, ?_⟩; clear hE a; intro a hE
    replace hM : Mem _ _ w5 [_, _, _, _, _, _] := hM.call0 hN trivial; clear hN
    refine s_pickt hE rfl rfl rfl ?_; clear hE a; intro a hE
    refine s_assign hE rfl rfl ?_; clear hE a; intro a hE
    refine q_nil ?_
    replace hE : Env a 43 [(0, _), (1, _), (4, _), (5, _), (6, _), (16, _)] := hE.sel [0, 1, 4, 5, 6, 16] rfl
    refine hK8 _ _ ?_
    refine wp_ret ?_
    refine f_ret1 hE rfl rfl ?_
    exact ⟨by first | rfl | simp, hM.nil⟩
set_option maxRecDepth 100000 in
theorem hmacParts_lifted (os : Os) (started : os.Started) (H : Type) (enc : TypeId × Value → H) :
    ReturnsInHanded {} Tryd.checked os 8 .any (fun w args => (Rows.hmacPartsSpec.pre enc Tryd.prog Tryd.f8 [] false w args ∧ laidMetH Tryd.prog Rows.hmacPartsRow.laid w) ∧ sizedMet enc Tryd.prog Tryd.f8 (OpenSpec.ofChange Rows.hmacPartsSpec) false w args) (Rows.hmacPartsSpec.post enc Tryd.prog Tryd.f8 false true false false) := by
  refine law_liftedL (C := Tryd.checked) (fn := Tryd.f8) (l := Rows.hmacPartsRow.laid) (by kernel_rfl) started (by kernel_rfl) Tryd.func8 rfl (fun ds hl => ?_) rfl Tryd.underlying4 (by kernel_rfl) (of_decide_eq_true (by kernel_rfl)) (by kernel_rfl)
    (ChangeSpec.witness_shaped (enc := enc) (C := Tryd.checked) (os := os) (X := fun w _ => laidMetH Tryd.prog Rows.hmacPartsRow.laid w) false (World.laidAll Tryd.prog os Rows.hmacPartsRow.laid) #[.slice none 0 0, .slice none 0 0] 8 (World.laidAll_os _ _ _) (World.shaped_of_ZipB (by kernel_rfl) (by kernel_rfl)) (by kernel_rfl) (by kernel_rfl) (by kernel_rfl) (by rw [MakeChecks.laidMetH_plain _ _ _ (by kernel_rfl)]; exact laidMet_laidAll _ (by kernel_rfl) (by kernel_rfl))) ?_
  · rw [Tryd.params8] at hl
    match ds, hl with
    | [_, _], _ => rfl
  · intro W base args ds ps hval hA hw hL
    have hG := glb_of_laid (P := Tryd.prog) (g := 0) (t := 91) (e := 48) (by kernel_rfl) (by kernel_rfl) Tryd.underlying91 Tryd.underlying48 (by kernel_rfl) (by kernel_rfl) (by kernel_rfl) (show laidMet Tryd.prog (_ :: _) W from hL)
    rw [Tryd.params8] at hA hval hw
    obtain ⟨v0, vs0, d0, ds0, p0, q0, hargs, rfl, rfl, h0, r0⟩ := trodAll_cons hA
    obtain ⟨v1, vs1, d1, ds1, p1, q1, rfl, rfl, rfl, h1, r1⟩ := trodAll_cons r0
    obtain ⟨rfl, rfl, rfl⟩ := trodAll_nil r1
    obtain rfl : args = #[v0, v1] := by cases args; simp_all
    obtain ⟨bs0, c0, hr0, hb0⟩ := arg_bytes Tryd.underlying26 Tryd.underlying5 (by kernel_rfl) (by kernel_rfl) (hval 0 26 v0 rfl rfl) h0 (fun m hm => hw m (by simp only [DataW.weightsEach, List.mem_append]; exact .inl hm))
    obtain ⟨us1, bb1, ps1, c1, hr1, hp1, hl1⟩ := arg_parts Tryd.underlying40 (by kernel_rfl) (by kernel_rfl) Tryd.underlying26 Tryd.underlying5 (by kernel_rfl) (by kernel_rfl) (hval 1 40 v1 rfl rfl) h1 (fun m hm => hw m (by simp only [DataW.weightsEach, List.mem_append]; exact .inr (.inl hm)))
    exact hmacParts_c v0 v1 bs0 ps1 us1 bb1 c0 c1 W hG hr0 hr1 hp1 (Nat.le_trans hl1 (by decide))

/-- The row's statement. -/
theorem hmacParts_row : Rows.HmacPartsSaid :=
  OpenClaim.holds_of_wide 8 Tryd.f8 rfl rfl rfl rfl rfl rfl rfl ⟨rfl, rfl, rfl, rfl, rfl⟩ rfl rfl rfl rfl rfl (by kernel_rfl) Tryd.func8 (by kernel_rfl)
    (of_decide_eq_true (by kernel_rfl)) (by unfold Func.isWrapper; first | (rw [if_pos (by decide +kernel)]; kernel_rfl) | (rw [if_neg (by decide +kernel)]; exact ⟨rfl, rfl⟩))
    (fun os started H enc _ => hmacParts_lifted os started H enc)

/-- The statement: the row, its listed variable tied to the program's text. -/
theorem hmacParts_holds : Rows.HmacPartsCardSaid :=
  Claim7.holds_tied_plain_at .later [] [.data] true (true, "84ae260bd57be45edc78bdc8f25baf9a88e7d5216b5328ce6ba213109669f402") true
    hmacParts_row (fun _ h => by cases h) (by kernel_rfl) (fun _ h => by cases h) hmacParts_row_tie rfl ⟨rfl, rfl⟩ (by kernel_rfl) rfl
    (fun f fn hf hfn => by
      obtain rfl : f = 8 := Option.some.inj ((show Tryd.prog.funcNamed "casemate/casematelaw04.HmacParts" = some 8 by kernel_rfl).symm.trans hf) |>.symm
      obtain rfl : fn = Tryd.f8 := (Option.some.inj (Tryd.func8.symm.trans hfn)).symm
      exact ⟨by kernel_rfl, fun j t ht => by
        rw [Tryd.params8] at ht
        have h : t ∈ [26, 40] := by
          rcases j with _ | _ | j
          · simp at ht; simp [ht]
          · simp at ht; simp [ht]
          · simp at ht
        simp only [List.mem_cons, List.not_mem_nil, or_false] at h
        rcases h with rfl | rfl
        · exact (show Tryd.prog.wantsStandIn 26 = false by kernel_rfl)
        · exact (show Tryd.prog.wantsStandIn 40 = false by kernel_rfl)⟩)
    (by kernel_rfl)
#print axioms hmacParts_holds
end Go.Proofs.YtcmikkfekmmheaaDoor
