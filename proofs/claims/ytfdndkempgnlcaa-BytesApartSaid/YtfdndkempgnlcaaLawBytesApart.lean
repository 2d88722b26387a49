/- BytesApart of casematelaw06 returns true for whatever two rows and bytes; they read behind the call as before. No condition. -/
import Derived.Test.YtfdndkempgnlcaaLb
namespace Go.Proofs.Ytfdndkempgnlcaa
open Go Go.Kx
open Go.ChangeShapes Go.WideShapes Go.ChangeAt Go.RowKit
theorem fo38_1 : fieldOff Try.prog 38 1 = some 1 := by kernel_rfl
theorem one22 : OneT Try.prog 22 := OneT.of Try.underlying22 rfl (by kernel_rfl)
theorem fo38_0 : fieldOff Try.prog 38 0 = some 0 := by kernel_rfl
theorem row38 : RowT Try.prog 38 2 := RowT.of Try.underlying38 rfl (by kernel_rfl)
theorem same_c (ba bb : List Nat) (pa pb : List (List UInt8)) (u v : Value) (us vs : List Value) (ca cb : Nat) (w : World) (hu : (rd u 1 pa.length ca us).holds w) (ha : (rdv ba us pa).holds w) (hv : (rd v 1 pb.length cb vs).holds w) (hb : (rdv bb vs pb).holds w) (hl : pa.length ≤ 140737488355328) : Calls Try.prog 18 #[u, v] w fun e w' => e = .returned (.bool (decide (pa = pb))) ∧ Mem w [] w' [] := by
  have hM : Mem w [] w [rd u 1 pa.length ca us, rdv ba us pa, rd v 1 pb.length cb vs, rdv bb vs pb] := Mem.startR w (fun g hg => by
    simp only [List.mem_cons, List.not_mem_nil, or_false] at hg
    rcases hg with rfl | rfl | rfl | rfl
    · exact ⟨hu, rfl⟩
    · exact ⟨ha, rfl⟩
    · exact ⟨hv, rfl⟩
    · exact ⟨hb, rfl⟩)
  have hul : us.length = pa.length := ha.2.1
  have hvl : vs.length = pb.length := hb.2.1
  refine f_enter 28 Try.func18 rfl rfl rfl ?_
  intro a hE
  replace hE : Env a 28 [(0, _), (1, _)] := hE
  refine wp_seq_k (fun K1 hK1 => ?_)
  refine wp_plain [true] rfl rfl ?_
  refine s_assign hE rfl rfl ?_; clear hE a; intro a hE
  refine q_nil ?_
  refine hK1 _ _ ?_
  refine wp_seq_k (fun K2 hK2 => ?_)
  refine wp_seq_k (fun K3 hK3 => ?_)
  refine wp_plain [true, true, true, true, true] rfl rfl ?_
  refine s_move hE rfl rfl ?_; clear hE a; intro a hE
  refine s_len hE rfl Try.underlying22 (rd_slice (hM.get 0 rfl)) rfl ?_; clear hE a; intro a hE
  refine s_move hE rfl rfl ?_; clear hE a; intro a hE
  refine s_len hE rfl Try.underlying22 (rd_slice (hM.get 2 rfl)) rfl ?_; clear hE a; intro a hE
  refine s_bin hE rfl rfl bin_neq rfl ?_; clear hE a; intro a hE
  refine q_nil ?_
  replace hE : Env a 28 [(0, _), (1, _), (4, _), (10, _)] := hE.sel [0, 1, 4, 10] rfl
  refine hK3 _ _ ?_
  refine hE.split 10 rfl (fun hb10 hE' => ?_) (fun hb10 hE' => ?_)
  · replace hE := hE'; clear hE'
    replace hb10 : pa.length ≠ pb.length := by simp at hb10; omega
    refine wp_cond_true (hE.eval rfl) ?_
    refine wp_seq_k (fun K4 hK4 => ?_)
    refine wp_plain [true] rfl rfl ?_
    refine s_assign hE rfl rfl ?_; clear hE a; intro a hE
    refine q_nil ?_
    refine hK4 _ _ ?_
    refine wp_ret ?_
    refine q_then_r ?_
    refine f_ret1 hE rfl rfl ?_
    refine ⟨?_, hM.nil⟩; rw [decide_eq_false (fun h => hb10 (congrArg List.length h))]
  · replace hE := hE'; clear hE'
    replace hb10 : pa.length = pb.length := by simp at hb10; omega
    refine wp_cond_false (hE.eval rfl) ?_
    refine wp_skip ?_
    refine hK2 _ _ ?_
    refine wp_seq_k (fun K4 hK4 => ?_)
    refine wp_seq_k (fun K5 hK5 => ?_)
    refine wp_plain [true] rfl rfl ?_
    refine s_assign hE rfl rfl ?_; clear hE a; intro a hE
    refine q_nil ?_
    refine hK5 _ _ ?_
    refine wp_block ?_
    refine c_loop (fun (i : Nat) a w' => i ≤ pa.length ∧ pa.take i = pb.take i ∧ Env a 28 [(0, u), (1, v), (5, .int .i64 i)] ∧ Mem w [] w' [rd u 1 pa.length ca us, rdv ba us pa, rd v 1 pb.length cb vs, rdv bb vs pb]) (fun i => pa.length - i) 0 ⟨Nat.zero_le _, rfl, hE.sel [0, 1, 5] rfl, hM⟩ ?_
    clear hE hM a; rintro i a w9 ⟨hi, hpre, hE, hM⟩
    refine wp_seq_k (fun K6 hK6 => ?_)
    refine wp_seq_k (fun K7 hK7 => ?_)
    refine wp_plain [true, true, true, true] rfl rfl ?_
    refine s_move hE rfl rfl ?_; clear hE a; intro a hE
    refine s_move hE rfl rfl ?_; clear hE a; intro a hE
    refine s_len hE rfl Try.underlying22 (rd_slice (hM.get 0 rfl)) rfl ?_; clear hE a; intro a hE
    refine s_bin hE rfl rfl bin_lss rfl ?_; clear hE a; intro a hE
    refine q_nil ?_
    replace hE : Env a 28 [(0, _), (1, _), (5, _), (14, _)] := hE.sel [0, 1, 5, 14] rfl
    refine hK7 _ _ ?_
    refine hE.split 14 rfl (fun hb14 hE' => ?_) (fun hb14 hE' => ?_)
    · replace hE := hE'; clear hE'
      replace hb14 := of_decide_eq_true hb14
      refine wp_cond_true (hE.eval rfl) ?_
      refine wp_skip ?_
      refine hK6 _ _ ?_
      refine wp_seq_k (fun K8 hK8 => ?_)
      refine wp_block ?_
      refine wp_seq_k (fun K9 hK9 => ?_)
      refine wp_drawnM hM (by kernel_rfl) (fun _ => False) [(0, true), (1, true), (2, true), (3, true), (4, true), (5, true), (6, true), (7, true), (8, true), (9, true), (10, true)] [] (by kernel_rfl) rfl ?_
      intro w10 hM' hww10; clear hM; have hM := hM'; clear hM'
      refine s_move hE rfl rfl ?_; clear hE a; intro a hE
      refine s_move hE rfl rfl ?_; clear hE a; intro a hE
      refine s_indexRd (j := i) hE rfl (hM.get 0 rfl) rfl slt22 (by first | rfl | omega) (by first | omega | decide) rfl ?_; clear hE a; intro a p19 hE hc19 hp19
      rw [elem1 (by omega)] at hc19
      refine s_loadAt1 hE rfl hc19 one23 (by intro X h; cases h; simp) rfl ?_; clear hE a; intro a hE
      refine s_toStr hE rfl Try.underlying23 Try.underlying5 Try.underlying9 (Exists.choose_spec (rdv_get (hM.get 1 rfl) (i := i) (by omega))) (by intro X h; cases h; simp) rfl ?_; clear hE a; intro a hE
      refine s_move hE rfl rfl ?_; clear hE a; intro a hE
      refine s_move hE rfl rfl ?_; clear hE a; intro a hE
      refine s_indexRd (j := i) hE rfl (hM.get 2 rfl) rfl slt22 (by first | rfl | omega) (by first | omega | decide) rfl ?_; clear hE a; intro a p24 hE hc24 hp24
      rw [elem1 (by omega)] at hc24
      refine s_loadAt1 hE rfl hc24 one23 (by intro X h; cases h; simp) rfl ?_; clear hE a; intro a hE
      refine s_toStr hE rfl Try.underlying23 Try.underlying5 Try.underlying9 (Exists.choose_spec (rdv_get (hM.get 3 rfl) (i := i) (by omega))) (by intro X h; cases h; simp) rfl ?_; clear hE a; intro a hE
      refine s_bin hE rfl rfl bins_str.2 rfl ?_; clear hE a; intro a hE
      refine q_nil ?_
      replace hE : Env a 28 [(0, _), (1, _), (5, _), (14, _), (27, _)] := hE.sel [0, 1, 5, 14, 27] rfl
      refine hK9 _ _ ?_
      refine hE.split 27 rfl (fun hb27 hE' => ?_) (fun hb27 hE' => ?_)
      · replace hE := hE'; clear hE'
        refine wp_cond_true (hE.eval rfl) ?_
        refine wp_seq_k (fun K10 hK10 => ?_)
        refine wp_plain [true] rfl rfl ?_
        refine s_assign hE rfl rfl ?_; clear hE a; intro a hE
        refine q_nil ?_
        refine hK10 _ _ ?_
        refine wp_ret ?_
        refine q_block_r ?_
        refine q_then_r ?_
        refine q_then_r ?_
        refine q_block_r ?_
        refine q_then_r ?_
        refine f_ret1 hE rfl rfl ?_
        refine ⟨?_, hM.nil⟩; rw [decide_eq_false (fun h => by subst h; simp at hb27)]
      · replace hE := hE'; clear hE'
        refine wp_cond_false (hE.eval rfl) ?_
        refine wp_skip ?_
        refine q_block_n ?_
        refine hK8 _ _ ?_
        refine wp_plain [true, true, true] rfl rfl ?_
        refine s_move hE rfl rfl ?_; clear hE a; intro a hE
        refine s_bin hE rfl rfl (bin_add (wrap_i64 (by omega) (by omega))) rfl ?_; clear hE a; intro a hE
        refine s_assign hE rfl rfl ?_; clear hE a; intro a hE
        refine q_nil ?_
        replace hE : Env a 28 [(0, _), (1, _), (5, _), (14, _), (27, _)] := hE.sel [0, 1, 5, 14, 27] rfl
        replace hE := hE.cast 5 rfl (show _ = Value.int .i64 ((i + 1 : Nat) : Int) from congrArg _ (by omega))
        refine ⟨i + 1, ⟨by omega, ?_, hE.sel [0, 1, 5] rfl, hM⟩, by omega⟩
        have e : pa.getD i [] = pb.getD i [] := by
          simp at hb27; exact hb27
        simp only [List.getD, List.getElem?_eq_getElem (show i < pa.length by omega), List.getElem?_eq_getElem (show i < pb.length by omega), Option.getD_some] at e
        rw [List.take_succ_eq_append_getElem (by omega), List.take_succ_eq_append_getElem (by omega), hpre, e]
    · replace hE := hE'; clear hE'
      replace hb14 := of_decide_eq_false hb14
      obtain rfl : i = pa.length := by omega
      refine wp_cond_false (hE.eval rfl) ?_
      refine wp_exit ?_
      refine q_then_e ?_
      refine q_then_e ?_
      refine q_block_x ?_
      refine hK4 _ _ ?_
      refine wp_seq_k (fun K8 hK8 => ?_)
      refine wp_plain [true] rfl rfl ?_
      refine s_assign hE rfl rfl ?_; clear hE a; intro a hE
      refine q_nil ?_
      refine hK8 _ _ ?_
      refine wp_ret ?_
      refine f_ret1 hE rfl rfl ?_
      refine ⟨?_, hM.nil⟩; rw [decide_eq_true (by rw [List.take_length, hb10, List.take_length] at hpre; exact hpre)]
theorem partedParts_c (dm : UInt8) (v1 : Value) (vs : List Value) (bb : List Nat) (ps : List (List UInt8)) (c1 : Nat) (w : World) (h1 : (rd v1 1 ps.length c1 vs).holds w) (hp : (rdv bb vs ps).holds w) (hl : ps.length ≤ 140737488355328) : Calls Try.prog 19 #[.agg #[.int .u8 dm.toNat, v1]] w fun e w' => ∃ pv us, e = .returned pv ∧ Mem w [] w' [own pv 1 (min ps.length 16) us, rdv bb us (clip 300 ps (min ps.length 16))] := by
  have hM := Mem.startR2 h1 hp rfl rfl
  have hvl : vs.length = ps.length := hp.2.1
  refine f_enter 33 Try.func19 rfl rfl rfl ?_
  intro a hE
  replace hE : Env a 33 [(0, _)] := hE
  refine wp_seq_k (fun K1 hK1 => ?_)
  refine wp_plain [false, true] rfl rfl ?_
  refine s_box (ss := [[.int .u8 (dm.toNat : Int)], [v1]]) [1, 1] hE hM rfl rfl rfl rfl ?_; clear hE a; intro a bx w1 hE hM'
  clear hM; have hM := hM'; clear hM'
  refine s_assign hE rfl rfl ?_; clear hE a; intro a hE
  refine q_nil ?_
  replace hE : Env a 33 [(1, _), (2, _)] := hE.sel [1, 2] rfl
  refine hK1 _ _ ?_
  refine wp_seq_k (fun K2 hK2 => ?_)
  refine wp_plain [true] rfl rfl ?_
  refine s_assign hE rfl rfl ?_; clear hE a; intro a hE
  replace hM := (hM.pick [1, 2, 0] rfl)
  have hbx : ∀ b, b ∈ bb → b ≠ bx := fun b hb e => by subst e; exact hM.notX 2 1 rfl rfl (by decide) b (by simp [blk]) hb
  replace hM := (hM.rdvNil (hM.get 1 rfl).1 (by intro b hb e he; simp only [List.mem_cons, List.not_mem_nil, or_false] at he; rcases he with rfl | rfl | rfl; exact List.not_mem_nil; exact List.not_mem_nil; simpa [blk] using hbx b hb)).addNil 1
  refine q_nil ?_
  refine hK2 _ _ ?_
  refine wp_seq_k (fun K3 hK3 => ?_)
  refine wp_seq_k (fun K4 hK4 => ?_)
  refine wp_plain [true] rfl rfl ?_
  refine s_assign hE rfl rfl ?_; clear hE a; intro a hE
  refine q_nil ?_
  refine hK4 _ _ ?_
  refine wp_block ?_
  refine c_loop (fun (i : Nat) a w' => i ≤ ps.length ∧ i ≤ 16 ∧ ∃ pv us, Env a 33 [(1, .pointer (some ⟨bx, 0, none⟩)), (3, pv), (4, .int .i64 i)] ∧ Mem w [] w' [own pv 1 i us, rdv bb us (clip 300 ps i), rd v1 1 ps.length c1 vs, rdv bb vs ps, blk bx [[.int .u8 dm.toNat], [v1]] [1, 1] 38]) (fun i => ps.length - i) 0 ⟨Nat.zero_le _, by omega, _, _, hE.sel [1, 3, 4] rfl, hM.pick [0, 1, 2, 3, 4] rfl⟩ ?_
  clear hE hM a; rintro i a w9 ⟨hi, hi16, pv, us, hE, hM⟩
  refine wp_seq_k (fun K5 hK5 => ?_)
  refine wp_seq_k (fun K6 hK6 => ?_)
  refine wp_plain [true, true, true, true, true, true, true, true, true] rfl rfl ?_
  refine s_move hE rfl rfl ?_; clear hE a; intro a hE
  refine s_fieldAddr hE rfl fo38_1 rfl ?_; clear hE a; intro a hE
  refine s_load1 hE rfl (hM.get 4 rfl) rfl one22 (by intro X h; cases h) rfl ?_; clear hE a; intro a hE
  refine s_len hE rfl Try.underlying22 (rd_slice (hM.get 2 rfl)) rfl ?_; clear hE a; intro a hE
  refine s_bin hE rfl rfl bin_lss rfl ?_; clear hE a; intro a hE
  refine s_move hE rfl rfl ?_; clear hE a; intro a hE
  refine hE.split 10 rfl (fun hb10 hE' => ?_) (fun hb10 hE' => ?_)
  · replace hE := hE'; clear hE'
    replace hb10 := of_decide_eq_true hb10
    refine g_yes hE rfl rfl ?_
    refine s_move hE rfl rfl ?_; clear hE a; intro a hE
    refine g_yes hE rfl rfl ?_
    refine s_bin hE rfl rfl bin_lss rfl ?_; clear hE a; intro a hE
    refine s_pickt hE rfl rfl rfl ?_; clear hE a; intro a hE
    refine q_nil ?_
    replace hE : Env a 33 [(1, _), (3, _), (4, _), (13, _)] := hE.sel [1, 3, 4, 13] rfl
    refine hK6 _ _ ?_
    refine hE.split 13 rfl (fun hb13 hE' => ?_) (fun hb13 hE' => ?_)
    · replace hE := hE'; clear hE'
      replace hb13 := of_decide_eq_true hb13
      refine wp_cond_true (hE.eval rfl) ?_
      refine wp_skip ?_
      refine hK5 _ _ ?_
      refine wp_seq_k (fun K7 hK7 => ?_)
      refine wp_block ?_
      refine wp_drawnM hM (by kernel_rfl) (fun b => b ∈ valBlocks pv) [(0, true), (1, true), (2, true), (3, true), (4, true), (5, true), (6, true), (7, true), (8, true), (9, true), (10, true), (11, true), (12, true), (13, true), (14, false), (15, false), (16, true)] [(14, [(15, 14), (16, 14)]), (15, [(16, 15)])] (by kernel_rfl) rfl ?_
      intro w10 hM' hww10; clear hM; have hM := hM'; clear hM'
      refine s_move hE rfl rfl ?_; clear hE a; intro a hE
      refine s_fieldAddr hE rfl fo38_1 rfl ?_; clear hE a; intro a hE
      refine s_load1 hE rfl (hM.get 4 rfl) rfl one22 (by intro X h; cases h; intro hx; exact ((apart_of_get hM.apart (i := 0) (j := 4) rfl rfl (by decide)).1 _ hx).1 (by simp [blk])) rfl ?_; clear hE a; intro a hE
      refine s_move hE rfl rfl ?_; clear hE a; intro a hE
      refine s_indexRd (j := i) hE rfl (hM.get 2 rfl) rfl slt22 (by first | rfl | omega) (by first | omega | decide) rfl ?_; clear hE a; intro a p20 hE hc20 hp20
      rw [elem1 (by omega)] at hc20
      refine s_loadAt1 hE rfl hc20 one23 (by intro X h; cases h; intro b hb hx; exact hM.notX 0 2 rfl rfl (by decide) b hx (hp20 b hb)) rfl ?_; clear hE a; intro a hE
      refine s_fieldAddr hE rfl fo38_1 rfl ?_; clear hE a; intro a hE
      refine s_load1 hE rfl (hM.get 4 rfl) rfl one22 (by intro X h; cases h; intro hx; exact ((apart_of_get hM.apart (i := 0) (j := 4) rfl rfl (by decide)).1 _ hx).1 (by simp [blk])) rfl ?_; clear hE a; intro a hE
      refine s_move hE rfl rfl ?_; clear hE a; intro a hE
      refine s_indexRd (j := i) hE rfl (hM.get 2 rfl) rfl slt22 (by first | rfl | omega) (by first | omega | decide) rfl ?_; clear hE a; intro a p25 hE hc25 hp25
      rw [elem1 (by omega)] at hc25
      refine s_loadAt1 hE rfl hc25 one23 (by intro X h; cases h; intro b hb hx; exact hM.notX 0 2 rfl rfl (by decide) b hx (hp25 b hb)) rfl ?_; clear hE a; intro a hE
      refine s_len hE rfl Try.underlying23 (rd_slice (Exists.choose_spec (rdv_get (hM.get 3 rfl) (i := i) (by omega)))) rfl ?_; clear hE a; intro a hE
      refine s_min hE rfl rfl rfl ?_; clear hE a; intro a hE
      replace hE := hE.cast 28 rfl (show _ = Value.int .i64 ((min (ps.getD i []).length 300 : Nat) : Int) from congrArg _ (by split <;> omega))
      obtain ⟨cg, hgb, hg⟩ := rdv_getB (hM.get 3 rfl) (i := i) (by omega)
      have hlg := rd_len hg
      refine s_slice (l := 0) (h := min (ps.getD i []).length 300) (mx' := cg) hE rfl hg slt23 rfl ⟨_, rfl⟩ rfl (by simp) (by omega) (by omega) (by omega) (by omega) rfl ?_; clear hE a; intro a v42 hE hr42 hvb42
      replace hr42 := rd_cut rfl hr42
      have hb42 : ∀ x, x ∈ rdB v42 cg → x ∈ bb := fun x hx => hgb x (hvb42 x hx)
      replace hM := hM.addFrom 3 rfl hr42 hb42 rfl
      have h42 := rd_one (hM.get 0 rfl)
      refine s_buildSlice (xs := [.tmp 29]) ([v42]) hE hM sl22 rfl rfl rfl (by intro v hv; rw [List.mem_singleton.1 hv, h42.1]; rfl) (by simp [h42.1]) rfl rfl rfl ?_; clear hE a; intro a v30 w11 hE hM'
      clear hM; have hM := hM'; clear hM'
      replace hM : Mem _ _ w11 [_, _, _, _, _, _, _] := hM.pick [2, 0, 1, 3, 4, 5, 6] rfl
      obtain ⟨cy, hy⟩ := own_rd (hM.get 1 rfl)
      refine s_append hE rfl rfl hM sl22 (Src.rd Try.underlying22 hy (one1 h42.2)) (len47 (by omega)) (by omega) (by intro X h; cases h; simp) rfl ?_; clear hE a hy; intro a v31 w12 hE hM'
      clear hM; have hM := hM'; clear hM'
      replace hM : Mem _ _ w12 [_, _, _, _, _, _] := hM.pick [0, 2, 3, 4, 5, 6] rfl
      replace hM : Mem _ _ w12 [_, _, _, _, _, _] := hM.pick [1, 2, 0, 3, 4, 5] rfl
      replace hM := hM.rdvSnoc hb42
      refine s_assign hE rfl rfl ?_; clear hE a; intro a hE
      refine q_nil ?_
      replace hE : Env a 33 [(1, _), (3, _), (4, _), (13, _)] := hE.sel [1, 3, 4, 13] rfl
      refine q_block_n ?_
      refine hK7 _ _ ?_
      refine wp_plain [true, true, true] rfl rfl ?_
      refine s_move hE rfl rfl ?_; clear hE a; intro a hE
      refine s_bin hE rfl rfl (bin_add (wrap_i64 (by omega) (by omega))) rfl ?_; clear hE a; intro a hE
      refine s_assign hE rfl rfl ?_; clear hE a; intro a hE
      refine q_nil ?_
      replace hE : Env a 33 [(1, _), (3, _), (4, _), (13, _)] := hE.sel [1, 3, 4, 13] rfl
      replace hE := hE.cast 4 rfl (show _ = Value.int .i64 ((i + 1 : Nat) : Int) from congrArg _ (by omega))
      replace hM : Mem _ _ w12 [_, _, _, _, _] := hM.pick [1, 0, 2, 3, 4] rfl
      refine ⟨i + 1, ⟨by omega, by omega, _, us ++ [v42], hE.sel [1, 3, 4] rfl, ?_⟩, by omega⟩
      rw [clip_succ (by omega)]; exact hM
    · replace hE := hE'; clear hE'
      replace hb13 := of_decide_eq_false hb13
      obtain rfl : i = min ps.length 16 := by omega
      refine wp_cond_false (hE.eval rfl) ?_
      refine wp_exit ?_
      refine q_then_e ?_
      refine q_then_e ?_
      refine q_block_x ?_
      refine hK3 _ _ ?_
      refine wp_seq_k (fun K7 hK7 => ?_)
      refine wp_plain [true, true] rfl rfl ?_
      refine s_move hE rfl rfl ?_; clear hE a; intro a hE
      refine s_assign hE rfl rfl ?_; clear hE a; intro a hE
      refine q_nil ?_
      replace hE : Env a 33 [(1, _), (2, _), (3, _), (4, _), (13, _)] := hE.sel [1, 2, 3, 4, 13] rfl
      refine hK7 _ _ ?_
      refine wp_ret ?_
      refine f_ret1 hE rfl rfl ?_
      exact ⟨_, us, rfl, hM.pick [0, 1] rfl⟩
  · replace hE := hE'; clear hE'
    replace hb10 := of_decide_eq_false hb10
    obtain rfl : i = min ps.length 16 := by omega
    refine g_no (b := false) hE rfl rfl rfl ?_; clear hE a; intro a hE
    refine g_no (b := false) hE rfl rfl rfl ?_; clear hE a; intro a hE
    refine s_pickf hE rfl rfl rfl ?_; clear hE a; intro a hE
    refine q_nil ?_
    replace hE : Env a 33 [(1, _), (3, _), (4, _), (13, _)] := hE.sel [1, 3, 4, 13] rfl
    refine hK6 _ _ ?_
    refine wp_cond_false (hE.eval rfl) ?_
    refine wp_exit ?_
    refine q_then_e ?_
    refine q_then_e ?_
    refine q_block_x ?_
    refine hK3 _ _ ?_
    refine wp_seq_k (fun K7 hK7 => ?_)
    refine wp_plain [true, true] rfl rfl ?_
    refine s_move hE rfl rfl ?_; clear hE a; intro a hE
    refine s_assign hE rfl rfl ?_; clear hE a; intro a hE
    refine q_nil ?_
    replace hE : Env a 33 [(1, _), (2, _), (3, _), (4, _), (13, _)] := hE.sel [1, 2, 3, 4, 13] rfl
    refine hK7 _ _ ?_
    refine wp_ret ?_
    refine f_ret1 hE rfl rfl ?_
    exact ⟨_, us, rfl, hM.pick [0, 1] rfl⟩
theorem partedRow_c (dm : UInt8) (v1 : Value) (vs : List Value) (bb : List Nat) (ps : List (List UInt8)) (c1 : Nat) (w : World) (h1 : (rd v1 1 ps.length c1 vs).holds w) (hp : (rdv bb vs ps).holds w) (hl : ps.length ≤ 140737488355328) : Calls Try.prog 17 #[.agg #[.int .u8 dm.toNat, v1]] w fun e w' => ∃ v', e = .returned (.tuple #[v', .int .i64 0]) ∧ Mem w [] w' [own v' 1 (rowBs dm (clip 300 ps (min ps.length 16)) (clip 300 ps (min ps.length 16)).length).length (bv (rowBs dm (clip 300 ps (min ps.length 16)) (clip 300 ps (min ps.length 16)).length))] := by
  have hM := Mem.startR2 h1 hp rfl rfl
  refine f_enter 11 Try.func17 rfl rfl rfl ?_
  intro a hE
  replace hE : Env a 11 [(0, _)] := hE
  refine wp_seq_k (fun K1 hK1 => ?_)
  refine wp_plain [false, true, true] rfl rfl ?_
  refine s_box (ss := [[.int .u8 (dm.toNat : Int)], [v1]]) [1, 1] hE hM rfl rfl rfl rfl ?_; clear hE a; intro a bx w1 hE hM'
  clear hM; have hM := hM'; clear hM'
  refine s_assign hE rfl rfl ?_; clear hE a; intro a hE
  refine s_assign hE rfl rfl ?_; clear hE a; intro a hE
  refine q_nil ?_
  replace hE : Env a 11 [(1, _), (2, _), (3, _)] := hE.sel [1, 2, 3] rfl
  refine hK1 _ _ ?_
  refine wp_seq_k (fun K2 hK2 => ?_)
  refine wp_drawnM hM (by kernel_rfl) (fun _ => False) [(0, true), (1, true), (2, true), (3, false), (4, false), (5, true), (6, true), (7, true), (8, true)] [(3, [(4, 3), (5, 4), (6, 4), (7, 3), (8, 3)]), (4, [(5, 4), (6, 4), (7, 4), (8, 4)])] (by kernel_rfl) rfl ?_
  intro w2 hM' hww2; clear hM; have hM := hM'; clear hM'
  refine s_fieldAddr hE rfl fo38_0 rfl ?_; clear hE a; intro a hE
  refine s_load1 hE rfl (hM.get 0 rfl) rfl one5 (by intro X h; cases h; simp) rfl ?_; clear hE a; intro a hE
  refine s_loadN hE rfl (hM.get 0 rfl) row38 rfl (by intro X h; cases h; simp) rfl ?_; clear hE a; intro a hE
  refine s_call hE rfl Try.call19 (partedParts_c dm v1 vs bb ps c1 _ (hM.get 1 rfl) (hM.get 2 rfl) hl) rfl ?_
  rintro e w3 ⟨pv, us, rfl, hN⟩
  refine ⟨_, rfl, hN.sta0 _, ?_⟩; clear hE a; intro a hE
  replace hM : Mem _ _ w3 [_, _, _, _, _] := hM.callF hN (by intro e he x hx; rcases List.mem_cons.1 he with rfl | he; exact absurd hx List.not_mem_nil; rw [List.mem_singleton.1 he] at hx; exact .inl ⟨_, List.mem_of_getElem? (i := 2) rfl, hx⟩); clear hN
  obtain ⟨csr, hsr⟩ := own_rd (hM.get 0 rfl)
  have hql : (clip 300 ps (min ps.length 16)).length = min ps.length 16 := clip_length (by omega)
  have hqb := clip_bytes (k := 300) (n := 16) (ps := ps) (i := min ps.length 16) (by omega)
  refine s_call hE rfl Try.call11 ((by have h := row_c dm bb (clip 300 ps (min ps.length 16)) _ us _ _ (by rw [hql]; exact hsr) (hM.get 1 rfl) (by omega); rw [show pRow dm (clip 300 ps (min ps.length 16)) = (rowBs dm (clip 300 ps (min ps.length 16)) (clip 300 ps (min ps.length 16)).length, 0) from by unfold pRow; rw [if_neg (by omega)]] at h; exact h)) rfl ?_
  rintro e w4 ⟨vr, rfl, hN⟩
  refine ⟨_, rfl, hN.sta0 _, ?_⟩; clear hE a; intro a hE
  replace hM : Mem _ _ w4 [_, _, _, _, _, _] := hM.call0 hN ⟨rfl, trivial⟩; clear hN
  refine s_extract hE rfl rfl rfl ?_; clear hE a; intro a hE
  refine s_extract hE rfl rfl rfl ?_; clear hE a; intro a hE
  refine s_assign hE rfl rfl ?_; clear hE a; intro a hE
  refine s_assign hE rfl rfl ?_; clear hE a; intro a hE
  refine q_nil ?_
  replace hE : Env a 11 [(2, _), (3, _)] := hE.sel [2, 3] rfl
  refine hK2 _ _ ?_
  refine wp_ret ?_
  refine f_ret2 hE rfl rfl rfl ?_
  exact ⟨_, rfl, hM.pick [0] rfl⟩
theorem bytesApart_c (dx dy : UInt8) (vx vy v3 : Value) (xs ys : List Value) (bbx bby : List Nat) (psx psy : List (List UInt8)) (cx cy c3 : Nat) (b0 : List UInt8) (w : World) (h1x : (rd vx 1 psx.length cx xs).holds w) (hpx : (rdv bbx xs psx).holds w) (hlx : psx.length ≤ 140737488355328) (h1y : (rd vy 1 psy.length cy ys).holds w) (hpy : (rdv bby ys psy).holds w) (hly : psy.length ≤ 140737488355328) (h3 : (rd v3 1 b0.length c3 (bv b0)).holds w) : Calls Try.prog 4 #[.agg #[.int .u8 dx.toNat, vx], .agg #[.int .u8 dy.toNat, vy], v3] w fun e w' => e = .returned (.bool true) ∧ Mem w [] w' [] := by
  obtain ⟨QX, hQX⟩ : ∃ q, q = clip 300 psx (min psx.length 16) := ⟨_, rfl⟩
  have hQXl : QX.length = min psx.length 16 := by rw [hQX]; exact clip_length (by omega)
  have hQXb : rowBytes QX ≤ 2 + 16 * (300 + 4) := by rw [hQX]; exact clip_bytes (by omega)
  have hQXp : ∀ p, p ∈ QX → p.length < 4294967296 := by
    intro p hp; rw [hQX] at hp; unfold clip at hp
    obtain ⟨p', _, rfl⟩ := List.mem_map.1 hp
    simp; omega
  have hQXr : (rowBs dx QX QX.length).length = rowBytes QX := rowBs_length dx QX
  obtain ⟨QY, hQY⟩ : ∃ q, q = clip 300 psy (min psy.length 16) := ⟨_, rfl⟩
  have hQYl : QY.length = min psy.length 16 := by rw [hQY]; exact clip_length (by omega)
  have hQYb : rowBytes QY ≤ 2 + 16 * (300 + 4) := by rw [hQY]; exact clip_bytes (by omega)
  have hQYp : ∀ p, p ∈ QY → p.length < 4294967296 := by
    intro p hp; rw [hQY] at hp; unfold clip at hp
    obtain ⟨p', _, rfl⟩ := List.mem_map.1 hp
    simp; omega
  have hQYr : (rowBs dy QY QY.length).length = rowBytes QY := rowBs_length dy QY
  have h2 : 2 ≤ rowBytes QX := by unfold rowBytes; omega
  have hPP : pParts (rowBs dx QX QX.length) = (dx, QX, 0) := by have := pParts_laid (dm := dx) (by omega) hQXp []; simpa using this
  have hless : pParts ((rowBs dx QX QX.length).take ((rowBs dx QX QX.length).length - 1)) = (0, [], 4) := (pParts_code _).resolve_left (by rw [pParts_less (by intro e; rw [e] at hQXr; simp at hQXr; omega) (by rw [hPP])]; decide)
  have hmoreG : ∀ x : UInt8, pParts (rowBs dx QX QX.length ++ [x]) = (0, [], 4) := fun x => (pParts_code _).resolve_left (by rw [pParts_more (by rw [hPP])]; decide)
  have hPQ : rowBs dx QX QX.length = rowBs dy QY QY.length ↔ dx = dy ∧ QX = QY := rowBs_eq (by omega) hQXp (by omega) hQYp
  have hM : Mem w [] w [rd vx 1 psx.length cx xs, rdv bbx xs psx, rd vy 1 psy.length cy ys, rdv bby ys psy, rd v3 1 b0.length c3 (bv b0)] := Mem.startR w (fun g hg => by
    simp only [List.mem_cons, List.not_mem_nil, or_false] at hg
    rcases hg with rfl | rfl | rfl | rfl | rfl
    · exact ⟨h1x, rfl⟩
    · exact ⟨hpx, rfl⟩
    · exact ⟨h1y, rfl⟩
    · exact ⟨hpy, rfl⟩
    · exact ⟨h3, rfl⟩)
  refine f_enter 149 Try.func4 rfl rfl rfl ?_
  intro a hE
  replace hE : Env a 149 [(0, _), (1, _), (2, _)] := hE
  refine wp_seq_k (fun K1 hK1 => ?_)
  refine wp_plain [false, false, true] rfl rfl ?_
  refine s_box (ss := [[.int .u8 (dx.toNat : Int)], [vx]]) [1, 1] hE hM rfl rfl rfl rfl ?_; clear hE a; intro a bX w1 hE hM'
  clear hM; have hM := hM'; clear hM'
  refine s_box (ss := [[.int .u8 (dy.toNat : Int)], [vy]]) [1, 1] hE hM rfl rfl rfl rfl ?_; clear hE a; intro a bY w2 hE hM'
  clear hM; have hM := hM'; clear hM'
  refine s_assign hE rfl rfl ?_; clear hE a; intro a hE
  refine q_nil ?_
  replace hE : Env a 149 [(2, _), (3, _), (4, _), (6, _)] := hE.sel [2, 3, 4, 6] rfl
  refine hK1 _ _ ?_
  refine wp_seq_k (fun K2 hK2 => ?_)
  refine wp_plain [true, false, true] rfl rfl ?_
  refine s_move hE rfl rfl ?_; clear hE a; intro a hE
  refine s_call hE rfl Try.call10 (cut_c b0 v3 c3 _ (hM.get 6 rfl)) rfl ?_
  rintro e w3 ⟨vB, cB, rfl, hvb, hrB, hN⟩
  refine ⟨_, rfl, trivial, ?_⟩; clear hE a; intro a hE
  replace hM : Mem _ _ w3 [_, _, _, _, _, _, _] := hM.call0 hN trivial; clear hN
  replace hM := hM.addPart 6 rfl hrB hvb; clear hrB hvb
  have hB : (b0.take 5000).length ≤ 5000 := by simp; omega
  generalize b0.take 5000 = B at hM hB
  refine s_assign hE rfl rfl ?_; clear hE a; intro a hE
  refine q_nil ?_
  replace hE : Env a 149 [(2, _), (3, _), (4, _), (6, _)] := hE.sel [2, 3, 4, 6] rfl
  refine hK2 _ _ ?_
  refine wp_seq_k (fun K3 hK3 => ?_)
  refine wp_plain [true, false, true, true, true, true, true] rfl rfl ?_
  refine s_loadN hE rfl (hM.get 2 rfl) row38 rfl (by intro X h; cases h) rfl ?_; clear hE a; intro a hE
  refine s_call hE rfl Try.call17 ((by have h := partedRow_c dx vx xs bbx psx cx _ (hM.get 3 rfl) (hM.get 4 rfl) hlx; rw [← hQX] at h; exact h)) rfl ?_
  rintro e w4 ⟨vp, rfl, hN⟩
  refine ⟨_, rfl, trivial, ?_⟩; clear hE a; intro a hE
  replace hM : Mem _ _ w4 [_, _, _, _, _, _, _, _, _] := hM.call0 hN ⟨rfl, trivial⟩; clear hN
  refine s_move hE rfl rfl ?_; clear hE a; intro a hE
  refine s_extract hE rfl rfl rfl ?_; clear hE a; intro a hE
  refine s_extract hE rfl rfl rfl ?_; clear hE a; intro a hE
  refine s_assign hE rfl rfl ?_; clear hE a; intro a hE
  refine s_assign hE rfl rfl ?_; clear hE a; intro a hE
  refine q_nil ?_
  replace hE : Env a 149 [(2, _), (3, _), (4, _), (6, _), (7, _), (8, _)] := hE.sel [2, 3, 4, 6, 7, 8] rfl
  refine hK3 _ _ ?_
  refine wp_seq_k (fun K4 hK4 => ?_)
  refine wp_plain [true, false, true, true, true, true, true] rfl rfl ?_
  refine s_loadN hE rfl (hM.get 2 rfl) row38 rfl (by intro X h; cases h) rfl ?_; clear hE a; intro a hE
  refine s_call hE rfl Try.call17 ((by have h := partedRow_c dy vy ys bby psy cy _ (hM.get 6 rfl) (hM.get 7 rfl) hly; rw [← hQY] at h; exact h)) rfl ?_
  rintro e w5 ⟨vq, rfl, hN⟩
  refine ⟨_, rfl, trivial, ?_⟩; clear hE a; intro a hE
  replace hM : Mem _ _ w5 [_, _, _, _, _, _, _, _, _, _] := hM.call0 hN ⟨rfl, trivial⟩; clear hN
  refine s_move hE rfl rfl ?_; clear hE a; intro a hE
  refine s_extract hE rfl rfl rfl ?_; clear hE a; intro a hE
  refine s_extract hE rfl rfl rfl ?_; clear hE a; intro a hE
  refine s_assign hE rfl rfl ?_; clear hE a; intro a hE
  refine s_assign hE rfl rfl ?_; clear hE a; intro a hE
  refine q_nil ?_
  replace hE : Env a 149 [(2, _), (3, _), (4, _), (6, _), (7, _), (8, _), (9, _), (10, _)] := hE.sel [2, 3, 4, 6, 7, 8, 9, 10] rfl
  refine hK4 _ _ ?_
  refine wp_seq_k (fun K5 hK5 => ?_)
  refine wp_plain [true, false, true, true, true, true, true, true, true] rfl rfl ?_
  refine s_move hE rfl rfl ?_; clear hE a; intro a hE
  obtain ⟨csp, hsp⟩ := own_rd (hM.get 1 rfl)
  refine s_call hE rfl Try.call13 ((by have h := parts_c (rowBs dx QX QX.length) _ _ _ hsp (by first | omega | (simp only [List.length_append, List.length_take, List.length_singleton]; omega)); rw [hPP] at h; exact h)) rfl ?_
  rintro e w6 ⟨pv39, vs39, bb39, rfl, hbb, hN⟩
  refine ⟨_, rfl, trivial, ?_⟩; clear hE a; intro a hE
  replace hM : Mem _ _ w6 [_, _, _, _, _, _, _, _, _, _, _, _] := hM.callN hN (by intro e he x hx; rcases List.mem_cons.1 he with rfl | he; exact absurd hx List.not_mem_nil; rw [List.mem_singleton.1 he] at hx; exact hbb x hx); clear hN
  clear hbb
  refine s_move hE rfl rfl ?_; clear hE a; intro a hE
  refine s_extract hE rfl rfl rfl ?_; clear hE a; intro a hE
  refine s_extract hE rfl rfl rfl ?_; clear hE a; intro a hE
  refine s_extract hE rfl rfl rfl ?_; clear hE a; intro a hE
  refine s_assign hE rfl rfl ?_; clear hE a; intro a hE
  refine s_assign hE rfl rfl ?_; clear hE a; intro a hE
  refine s_assign hE rfl rfl ?_; clear hE a; intro a hE
  refine q_nil ?_
  replace hE : Env a 149 [(2, _), (3, _), (4, _), (6, _), (7, _), (8, _), (9, _), (10, _), (11, _), (12, _), (13, _)] := hE.sel [2, 3, 4, 6, 7, 8, 9, 10, 11, 12, 13] rfl
  refine hK5 _ _ ?_
  refine wp_seq_k (fun K6 hK6 => ?_)
  refine wp_seq_k (fun K7 hK7 => ?_)
  refine wp_plain [true, true, true, true, true, true, true, true, true, true, true, true, true, true, true, true, true, true, true, false, false, true, true] rfl rfl ?_
  refine s_move hE rfl rfl ?_; clear hE a; intro a hE
  refine s_bin hE rfl rfl bin_neq rfl ?_; clear hE a; intro a hE
  refine s_move hE rfl rfl ?_; clear hE a; intro a hE
  replace hE := hE.cast 45 rfl (show _ = Value.bool false from (congrArg Value.bool (by first | exact decide_eq_true rfl | rfl | (simp; done) | (simp [hb120]; done))))
  refine g_yes hE rfl rfl ?_
  refine s_move hE rfl rfl ?_; clear hE a; intro a hE
  refine g_yes hE rfl rfl ?_
  refine s_bin hE rfl rfl bin_neq rfl ?_; clear hE a; intro a hE
  refine s_pickf hE rfl rfl rfl ?_; clear hE a; intro a hE
  refine s_move hE rfl rfl ?_; clear hE a; intro a hE
  replace hE := hE.cast 49 rfl (show _ = Value.bool false from (congrArg Value.bool (by first | exact decide_eq_true rfl | rfl | (simp; done) | (simp [hb120]; done))))
  refine g_yes hE rfl rfl ?_
  refine s_move hE rfl rfl ?_; clear hE a; intro a hE
  refine g_yes hE rfl rfl ?_
  refine s_bin hE rfl rfl bin_neq rfl ?_; clear hE a; intro a hE
  refine s_pickf hE rfl rfl rfl ?_; clear hE a; intro a hE
  refine s_move hE rfl rfl ?_; clear hE a; intro a hE
  replace hE := hE.cast 53 rfl (show _ = Value.bool false from (congrArg Value.bool (by first | exact decide_eq_true rfl | rfl | (simp; done) | (simp [hb120]; done))))
  refine g_yes hE rfl rfl ?_
  refine s_move hE rfl rfl ?_; clear hE a; intro a hE
  refine g_yes hE rfl rfl ?_
  refine s_fieldAddr hE rfl fo38_0 rfl ?_; clear hE a; intro a hE
  refine g_yes hE rfl rfl ?_
  refine s_load1 hE rfl (hM.get 6 rfl) rfl one5 (by intro X h; cases h) rfl ?_; clear hE a; intro a hE
  refine g_yes hE rfl rfl ?_
  refine s_bin hE rfl rfl bin_neq rfl ?_; clear hE a; intro a hE
  refine s_pickf hE rfl rfl rfl ?_; clear hE a; intro a hE
  refine s_move hE rfl rfl ?_; clear hE a; intro a hE
  replace hE := hE.cast 59 rfl (show _ = Value.bool false from (congrArg Value.bool (by first | exact decide_eq_true rfl | rfl | (simp; done) | (simp [hb120]; done))))
  refine g_yes hE rfl rfl ?_
  refine s_move hE rfl rfl ?_; clear hE a; intro a hE
  refine g_yes hE rfl rfl ?_
  refine s_loadN hE rfl (hM.get 6 rfl) row38 rfl (by intro X h; cases h) rfl ?_; clear hE a; intro a hE
  refine g_yes hE rfl rfl ?_
  refine s_call hE rfl Try.call19 ((by have h := partedParts_c dx vx xs bbx psx cx _ (hM.get 7 rfl) (hM.get 8 rfl) hlx; rw [← hQX, ← hQXl] at h; exact h)) rfl ?_
  rintro e w7 ⟨pv62, us62, rfl, hN⟩
  refine ⟨_, rfl, trivial, ?_⟩; clear hE a; intro a hE
  replace hM : Mem _ _ w7 [_, _, _, _, _, _, _, _, _, _, _, _, _, _] := hM.callF hN (by intro e he x hx; rcases List.mem_cons.1 he with rfl | he; exact absurd hx List.not_mem_nil; rw [List.mem_singleton.1 he] at hx; exact .inl ⟨_, List.mem_of_getElem? (i := 8) rfl, hx⟩); clear hN
  refine g_yes hE rfl rfl ?_
  obtain ⟨cssa63, hssa63⟩ := own_rd (hM.get 2 rfl)
  obtain ⟨cssb63, hssb63⟩ := own_rd (hM.get 0 rfl)
  refine s_call hE rfl Try.call18 (same_c _ _ QX QX _ _ _ _ _ _ _ hssa63 (hM.get 3 rfl) hssb63 (hM.get 1 rfl) (by omega)) rfl ?_
  rintro e w8 ⟨rfl, hN⟩
  refine ⟨_, rfl, trivial, ?_⟩; clear hE a; intro a hE
  replace hM : Mem _ _ w8 [_, _, _, _, _, _, _, _, _, _, _, _, _, _] := hM.call0 hN trivial; clear hN
  refine g_yes hE rfl rfl ?_
  refine s_not hE rfl rfl ?_; clear hE a; intro a hE
  refine s_pickf hE rfl rfl rfl ?_; clear hE a; intro a hE
  refine q_nil ?_
  replace hE : Env a 149 [(2, _), (3, _), (4, _), (6, _), (7, _), (9, _), (65, _)] := hE.sel [2, 3, 4, 6, 7, 9, 65] rfl
  refine hK7 _ _ ?_
  replace hE := hE.cast 65 rfl (show _ = Value.bool false from (congrArg Value.bool (by first | exact decide_eq_true rfl | rfl | (simp; done) | (simp [hb120]; done))))
  refine wp_cond_false (hE.eval rfl) ?_
  refine wp_skip ?_
  refine hK6 _ _ ?_
  refine wp_seq_k (fun K8 hK8 => ?_)
  refine wp_seq_k (fun K9 hK9 => ?_)
  refine wp_drawnM hM (by kernel_rfl) (fun _ => False) [(0, true), (1, true), (2, true), (3, true), (4, true), (5, true), (6, true), (7, true), (8, true), (9, true), (10, true), (11, true), (13, true), (12, false), (14, false), (15, false), (16, true), (17, true)] [(12, [(14, 12), (15, 12), (16, 15), (17, 16)]), (14, [(15, 14), (16, 15), (17, 16)]), (15, [(16, 15), (17, 16)])] (by kernel_rfl) rfl ?_
  intro w9 hM' hww9; clear hM; have hM := hM'; clear hM'
  refine s_move hE rfl rfl ?_; clear hE a; intro a hE
  obtain ⟨cs67, hs67⟩ := own_rd (hM.get 5 rfl)
  refine s_toStr hE rfl Try.underlying23 Try.underlying5 Try.underlying9 hs67 (by intro X h; cases h; simp) rfl ?_; clear hE a; intro a hE
  refine s_move hE rfl rfl ?_; clear hE a; intro a hE
  obtain ⟨cs69, hs69⟩ := own_rd (hM.get 4 rfl)
  refine s_toStr hE rfl Try.underlying23 Try.underlying5 Try.underlying9 hs69 (by intro X h; cases h; simp) rfl ?_; clear hE a; intro a hE
  refine s_bin hE rfl rfl bins_str.1 rfl ?_; clear hE a; intro a hE
  refine s_fieldAddr hE rfl fo38_0 rfl ?_; clear hE a; intro a hE
  refine s_load1 hE rfl (hM.get 8 rfl) rfl one5 (by intro X h; cases h; simp) rfl ?_; clear hE a; intro a hE
  refine s_fieldAddr hE rfl fo38_0 rfl ?_; clear hE a; intro a hE
  refine s_load1 hE rfl (hM.get 7 rfl) rfl one5 (by intro X h; cases h; simp) rfl ?_; clear hE a; intro a hE
  refine s_bin hE rfl rfl bin_eql rfl ?_; clear hE a; intro a hE
  refine s_move hE rfl rfl ?_; clear hE a; intro a hE
  refine hE.split 76 rfl (fun hb76 hE' => ?_) (fun hb76 hE' => ?_)
  · replace hE := hE'; clear hE'
    replace hb76 : dx = dy := by
      have := of_decide_eq_true hb76
      exact UInt8.toNat_inj.1 (by omega)
    refine g_yes hE rfl rfl ?_
    refine s_loadN hE rfl (hM.get 8 rfl) row38 rfl (by intro X h; cases h; simp) rfl ?_; clear hE a; intro a hE
    refine g_yes hE rfl rfl ?_
    refine s_loadN hE rfl (hM.get 7 rfl) row38 rfl (by intro X h; cases h; simp) rfl ?_; clear hE a; intro a hE
    refine g_yes hE rfl rfl ?_
    refine s_call hE rfl Try.call19 ((by have h := partedParts_c dx vx xs bbx psx cx _ (hM.get 9 rfl) (hM.get 10 rfl) hlx; rw [← hQX, ← hQXl] at h; exact h)) rfl ?_
    rintro e w10 ⟨pv78, us78, rfl, hN⟩
    refine ⟨_, rfl, hN.sta0 _, ?_⟩; clear hE a; intro a hE
    replace hM : Mem _ _ w10 [_, _, _, _, _, _, _, _, _, _, _, _, _, _, _, _] := hM.callF hN (by intro e he x hx; rcases List.mem_cons.1 he with rfl | he; exact absurd hx List.not_mem_nil; rw [List.mem_singleton.1 he] at hx; exact .inl ⟨_, List.mem_of_getElem? (i := 10) rfl, hx⟩); clear hN
    refine g_yes hE rfl rfl ?_
    refine s_call hE rfl Try.call19 ((by have h := partedParts_c dy vy ys bby psy cy _ (hM.get 13 rfl) (hM.get 14 rfl) hly; rw [← hQY, ← hQYl] at h; exact h)) rfl ?_
    rintro e w11 ⟨pv80, us80, rfl, hN⟩
    refine ⟨_, rfl, hN.sta0 _, ?_⟩; clear hE a; intro a hE
    replace hM : Mem _ _ w11 [_, _, _, _, _, _, _, _, _, _, _, _, _, _, _, _, _, _] := hM.callF hN (by intro e he x hx; rcases List.mem_cons.1 he with rfl | he; exact absurd hx List.not_mem_nil; rw [List.mem_singleton.1 he] at hx; exact .inl ⟨_, List.mem_of_getElem? (i := 14) rfl, hx⟩); clear hN
    refine g_yes hE rfl rfl ?_
    obtain ⟨cssa81, hssa81⟩ := own_rd (hM.get 2 rfl)
    obtain ⟨cssb81, hssb81⟩ := own_rd (hM.get 0 rfl)
    refine s_call hE rfl Try.call18 (same_c _ _ QX QY _ _ _ _ _ _ _ hssa81 (hM.get 3 rfl) hssb81 (hM.get 1 rfl) (by omega)) rfl ?_
    rintro e w12 ⟨rfl, hN⟩
    refine ⟨_, rfl, hN.sta0 _, ?_⟩; clear hE a; intro a hE
    replace hM : Mem _ _ w12 [_, _, _, _, _, _, _, _, _, _, _, _, _, _, _, _, _, _] := hM.call0 hN trivial; clear hN
    refine s_pickt hE rfl rfl rfl ?_; clear hE a; intro a hE
    refine s_bin hE rfl rfl (bins_bool Try.underlying4).2 rfl ?_; clear hE a; intro a hE
    refine q_nil ?_
    replace hE : Env a 149 [(2, _), (3, _), (4, _), (6, _), (7, _), (65, _), (83, _)] := hE.sel [2, 3, 4, 6, 7, 65, 83] rfl
    refine hK9 _ _ ?_
    replace hE := hE.cast 83 rfl (show _ = Value.bool false from (congrArg Value.bool (by first | (simp [hPQ, hb76]; done) | (have h9 := hPQ; rw [hb76] at h9; simp [hb76, h9]))))
    refine wp_cond_false (hE.eval rfl) ?_
    refine wp_skip ?_
    refine hK8 _ _ ?_
    refine wp_seq_k (fun K10 hK10 => ?_)
    refine wp_plain [true, true, true, true, true, false, true, true, true, true, true, true, true] rfl rfl ?_
    refine s_move hE rfl rfl ?_; clear hE a; intro a hE
    refine s_move hE rfl rfl ?_; clear hE a; intro a hE
    refine s_len hE rfl Try.underlying23 (own_slice (hM.get 9 rfl)) rfl ?_; clear hE a; intro a hE
    refine s_bin (r := .int .i64 (((rowBs dx QX QX.length).length - 1 : Nat) : Int)) hE rfl rfl (bin_sub (by rw [wrap_i64 (by omega) (by omega)]; omega)) rfl ?_; clear hE a; intro a hE
    refine s_sliceTo (l := (rowBs dx QX QX.length).length - 1) hE rfl (hM.get 9 rfl) slt23 ⟨_, rfl⟩ (by omega) rfl ?_; clear hE a; intro a hE
    obtain ⟨cl9, hl9⟩ := own_rd (own_subB (l := (rowBs dx QX QX.length).length - 1) (hM.get 9 rfl) (by omega))
    refine s_call hE rfl Try.call13 ((by have h := parts_c ((rowBs dx QX QX.length).take ((rowBs dx QX QX.length).length - 1)) _ _ _ (by rw [show ((rowBs dx QX QX.length).take ((rowBs dx QX QX.length).length - 1)).length = (rowBs dx QX QX.length).length - 1 by simp]; exact hl9) (by first | omega | (simp only [List.length_append, List.length_take, List.length_singleton]; omega)); rw [hless] at h; exact h)) rfl ?_
    rintro e w13 ⟨pv90, vs90, bb90, rfl, hbb, hN⟩
    refine ⟨_, rfl, trivial, ?_⟩; clear hE a; intro a hE
    replace hM : Mem _ _ w13 [_, _, _, _, _, _, _, _, _, _, _, _, _, _, _, _, _, _, _, _] := hM.callN hN (by intro e he x hx; rcases List.mem_cons.1 he with rfl | he; exact absurd hx List.not_mem_nil; rw [List.mem_singleton.1 he] at hx; exact hbb x hx); clear hN
    clear hbb
    refine s_move hE rfl rfl ?_; clear hE a; intro a hE
    refine s_extract hE rfl rfl rfl ?_; clear hE a; intro a hE
    refine s_extract hE rfl rfl rfl ?_; clear hE a; intro a hE
    refine s_extract hE rfl rfl rfl ?_; clear hE a; intro a hE
    refine s_assign hE rfl rfl ?_; clear hE a; intro a hE
    refine s_assign hE rfl rfl ?_; clear hE a; intro a hE
    refine s_assign hE rfl rfl ?_; clear hE a; intro a hE
    refine q_nil ?_
    replace hE : Env a 149 [(2, _), (3, _), (4, _), (6, _), (7, _), (16, _), (65, _), (83, _)] := hE.sel [2, 3, 4, 6, 7, 16, 65, 83] rfl
    refine hK10 _ _ ?_
    refine wp_seq_k (fun K11 hK11 => ?_)
    refine wp_plain [false, true, false, true, true, true, false, false, false, true, true, true, true, true, true, true] rfl rfl ?_
    refine s_buildSlice (xs := []) ([]) hE hM sl23 rfl rfl rfl (by intro v hv; cases hv) rfl rfl rfl rfl ?_; clear hE a; intro a v95 w14 hE hM'
    clear hM; have hM := hM'; clear hM'
    refine s_move hE rfl rfl ?_; clear hE a; intro a hE
    obtain ⟨cy, hy⟩ := own_rd (hM.get 12 rfl)
    refine s_append hE rfl rfl hM sl23 (Src.rd Try.underlying23 hy (bv_one _)) (len47 (by omega)) (by omega) (by intro X h; cases h) rfl ?_; clear hE a hy; intro a v97 w15 hE hM'
    clear hM; have hM := hM'; clear hM'
    refine s_move hE rfl rfl ?_; clear hE a; intro a hE
    refine s_len hE rfl Try.underlying23 (rd_slice (hM.get 13 rfl)) rfl ?_; clear hE a; intro a hE
    refine s_conv hE rfl (cnv_int Try.underlying3 Try.underlying5 (wrap_u8_ofNat _)) rfl ?_; clear hE a; intro a hE
    refine s_buildSlice (xs := [.tmp 100]) (bv [UInt8.ofNat B.length]) hE hM sl23 rfl rfl rfl (by intro v hv; simp at hv; subst hv; rfl) rfl rfl rfl rfl ?_; clear hE a; intro a v101 w16 hE hM'
    clear hM; have hM := hM'; clear hM'
    replace hM : Mem _ _ w16 [_, _, _, _, _, _, _, _, _, _, _, _, _, _, _, _, _, _, _, _, _, _] := hM.pick [1, 0, 2, 3, 4, 5, 6, 7, 8, 9, 10, 11, 12, 13, 14, 15, 16, 17, 18, 19, 20, 21] rfl
    obtain ⟨cy, hy⟩ := own_rd (hM.get 1 rfl)
    refine s_append hE rfl rfl hM sl23 (Src.rd Try.underlying23 hy (bv_one _)) (len47 (by simp; omega)) (by simp; omega) (by intro X h; cases h) rfl ?_; clear hE a hy; intro a v102 w17 hE hM'
    clear hM; have hM := hM'; clear hM'
    replace hM := hM.ownEq (m' := (rowBs dx QX QX.length ++ [UInt8.ofNat B.length]).length) (cs' := bv (rowBs dx QX QX.length ++ [UInt8.ofNat B.length])) (by simp) (by simp)
    obtain ⟨csm, hsm⟩ := own_rd (hM.get 0 rfl)
    refine s_call hE rfl Try.call13 ((by have h := parts_c (rowBs dx QX QX.length ++ [UInt8.ofNat B.length]) _ _ _ hsm (by first | omega | (simp only [List.length_append, List.length_take, List.length_singleton]; omega)); rw [hmoreG] at h; exact h)) rfl ?_
    rintro e w18 ⟨pv103, vs103, bb103, rfl, hbb, hN⟩
    refine ⟨_, rfl, trivial, ?_⟩; clear hE a; intro a hE
    replace hM : Mem _ _ w18 [_, _, _, _, _, _, _, _, _, _, _, _, _, _, _, _, _, _, _, _, _, _, _, _] := hM.callN hN (by intro e he x hx; rcases List.mem_cons.1 he with rfl | he; exact absurd hx List.not_mem_nil; rw [List.mem_singleton.1 he] at hx; exact hbb x hx); clear hN
    clear hbb
    refine s_move hE rfl rfl ?_; clear hE a; intro a hE
    refine s_extract hE rfl rfl rfl ?_; clear hE a; intro a hE
    refine s_extract hE rfl rfl rfl ?_; clear hE a; intro a hE
    refine s_extract hE rfl rfl rfl ?_; clear hE a; intro a hE
    refine s_assign hE rfl rfl ?_; clear hE a; intro a hE
    refine s_assign hE rfl rfl ?_; clear hE a; intro a hE
    refine s_assign hE rfl rfl ?_; clear hE a; intro a hE
    refine q_nil ?_
    replace hE : Env a 149 [(2, _), (3, _), (4, _), (6, _), (7, _), (16, _), (19, _), (65, _), (83, _)] := hE.sel [2, 3, 4, 6, 7, 16, 19, 65, 83] rfl
    refine hK11 _ _ ?_
    refine wp_seq_k (fun K12 hK12 => ?_)
    refine wp_seq_k (fun K13 hK13 => ?_)
    refine wp_plain [true, true, true, true, true, true] rfl rfl ?_
    refine s_move hE rfl rfl ?_; clear hE a; intro a hE
    refine s_bin hE rfl rfl bin_eql rfl ?_; clear hE a; intro a hE
    refine s_move hE rfl rfl ?_; clear hE a; intro a hE
    replace hE := hE.cast 109 rfl (show _ = Value.bool false from (congrArg Value.bool (by first | exact decide_eq_true rfl | rfl | (simp; done) | (simp [hb120]; done))))
    refine g_yes hE rfl rfl ?_
    refine s_move hE rfl rfl ?_; clear hE a; intro a hE
    refine g_yes hE rfl rfl ?_
    refine s_bin hE rfl rfl bin_eql rfl ?_; clear hE a; intro a hE
    refine s_pickf hE rfl rfl rfl ?_; clear hE a; intro a hE
    refine q_nil ?_
    replace hE : Env a 149 [(2, _), (3, _), (4, _), (6, _), (7, _), (65, _), (83, _), (112, _)] := hE.sel [2, 3, 4, 6, 7, 65, 83, 112] rfl
    refine hK13 _ _ ?_
    replace hE := hE.cast 112 rfl (show _ = Value.bool false from (congrArg Value.bool (by first | exact decide_eq_true rfl | rfl | (simp; done) | (simp [hb120]; done))))
    refine wp_cond_false (hE.eval rfl) ?_
    refine wp_skip ?_
    refine hK12 _ _ ?_
    refine wp_seq_k (fun K14 hK14 => ?_)
    refine wp_plain [true, false, true, true, true, true, true, true, true] rfl rfl ?_
    refine s_move hE rfl rfl ?_; clear hE a; intro a hE
    refine s_call hE rfl Try.call13 ((by have h := parts_c (B) _ _ _ (hM.get 16 rfl) (by first | omega | (simp only [List.length_append, List.length_take, List.length_singleton]; omega)); exact h)) rfl ?_
    rintro e w19 ⟨pv115, vs115, bb115, rfl, hbb, hN⟩
    refine ⟨_, rfl, trivial, ?_⟩; clear hE a; intro a hE
    replace hM : Mem _ _ w19 [_, _, _, _, _, _, _, _, _, _, _, _, _, _, _, _, _, _, _, _, _, _, _, _, _, _] := hM.callN hN (by intro e he x hx; rcases List.mem_cons.1 he with rfl | he; exact absurd hx List.not_mem_nil; rw [List.mem_singleton.1 he] at hx; exact hbb x hx); clear hN
    clear hbb
    refine s_move hE rfl rfl ?_; clear hE a; intro a hE
    refine s_extract hE rfl rfl rfl ?_; clear hE a; intro a hE
    refine s_extract hE rfl rfl rfl ?_; clear hE a; intro a hE
    refine s_extract hE rfl rfl rfl ?_; clear hE a; intro a hE
    refine s_assign hE rfl rfl ?_; clear hE a; intro a hE
    refine s_assign hE rfl rfl ?_; clear hE a; intro a hE
    refine s_assign hE rfl rfl ?_; clear hE a; intro a hE
    refine q_nil ?_
    replace hE : Env a 149 [(2, _), (3, _), (4, _), (6, _), (7, _), (20, _), (21, _), (22, _), (65, _), (83, _), (112, _)] := hE.sel [2, 3, 4, 6, 7, 20, 21, 22, 65, 83, 112] rfl
    refine hK14 _ _ ?_
    refine wp_seq_k (fun K15 hK15 => ?_)
    refine wp_seq_k (fun K16 hK16 => ?_)
    refine wp_plain [true, true] rfl rfl ?_
    refine s_move hE rfl rfl ?_; clear hE a; intro a hE
    refine s_bin hE rfl rfl bin_neq rfl ?_; clear hE a; intro a hE
    refine q_nil ?_
    replace hE : Env a 149 [(2, _), (3, _), (4, _), (6, _), (7, _), (20, _), (21, _), (65, _), (83, _), (112, _), (120, _)] := hE.sel [2, 3, 4, 6, 7, 20, 21, 65, 83, 112, 120] rfl
    refine hK16 _ _ ?_
    refine hE.split 120 rfl (fun hb120 hE' => ?_) (fun hb120 hE' => ?_)
    · replace hE := hE'; clear hE'
      replace hb120 : pParts B = (0, [], 4) := (pParts_code B).resolve_left (by intro h; rw [h] at hb120; simp at hb120)
      rw [hb120] at hE hM
      refine wp_cond_true (hE.eval rfl) ?_
      refine wp_seq_k (fun K17 hK17 => ?_)
      refine wp_plain [true, true, true, true, true, true, true, true, false, true, true] rfl rfl ?_
      refine s_move hE rfl rfl ?_; clear hE a; intro a hE
      refine s_len hE rfl Try.underlying22 (own_slice (hM.get 0 rfl)) rfl ?_; clear hE a; intro a hE
      refine s_bin hE rfl rfl bin_eql rfl ?_; clear hE a; intro a hE
      refine s_move hE rfl rfl ?_; clear hE a; intro a hE
      replace hE := hE.cast 124 rfl (show _ = Value.bool true from (congrArg Value.bool (by first | exact decide_eq_true rfl | rfl | (simp; done) | (simp [hb120]; done))))
      refine g_yes hE rfl rfl ?_
      refine s_move hE rfl rfl ?_; clear hE a; intro a hE
      refine g_yes hE rfl rfl ?_
      refine s_bin hE rfl rfl bin_eql rfl ?_; clear hE a; intro a hE
      refine s_pickt hE rfl rfl rfl ?_; clear hE a; intro a hE
      refine s_move hE rfl rfl ?_; clear hE a; intro a hE
      replace hE := hE.cast 128 rfl (show _ = Value.bool true from (congrArg Value.bool (by first | exact decide_eq_true rfl | rfl | (simp; done) | (simp [hb120]; done))))
      refine g_yes hE rfl rfl ?_
      refine s_call hE rfl Try.call16 (works_c _) rfl ?_
      rintro e w20 ⟨rfl, hN⟩
      refine ⟨_, rfl, trivial, ?_⟩; clear hE a; intro a hE
      replace hM : Mem _ _ w20 [_, _, _, _, _, _, _, _, _, _, _, _, _, _, _, _, _, _, _, _, _, _, _, _, _, _] := hM.call0 hN trivial; clear hN
      refine s_pickt hE rfl rfl rfl ?_; clear hE a; intro a hE
      refine s_assign hE rfl rfl ?_; clear hE a; intro a hE
      refine q_nil ?_
      replace hE : Env a 149 [(2, _), (3, _), (4, _), (6, _), (7, _), (20, _), (21, _), (65, _), (83, _), (112, _), (120, _)] := hE.sel [2, 3, 4, 6, 7, 20, 21, 65, 83, 112, 120] rfl
      refine hK17 _ _ ?_
      refine wp_ret ?_
      refine q_then_r ?_
      refine f_ret1 hE rfl rfl ?_
      exact ⟨rfl, hM.nil⟩
    · replace hE := hE'; clear hE'
      replace hb120 : (pParts B).2.2 = 0 := by simp at hb120; omega
      refine wp_cond_false (hE.eval rfl) ?_
      refine wp_skip ?_
      refine hK15 _ _ ?_
      refine wp_seq_k (fun K17 hK17 => ?_)
      refine wp_plain [true, true, false, true, true, true, true, true] rfl rfl ?_
      refine s_move hE rfl rfl ?_; clear hE a; intro a hE
      refine s_move hE rfl rfl ?_; clear hE a; intro a hE
      obtain ⟨csmm, hsmm⟩ := own_rd (hM.get 0 rfl)
      refine s_call hE rfl Try.call11 ((by have h := row_c (pParts B).1 _ (pParts B).2.1 _ _ _ _ hsmm (hM.get 1 rfl) (by have h3 := (pParts_back hb120).2.2; have h4 := congrArg List.length h3; rw [rowBs_length] at h4; omega); rw [pRow_back hb120] at h; exact h)) rfl ?_
      rintro e w20 ⟨vag, rfl, hN⟩
      refine ⟨_, rfl, trivial, ?_⟩; clear hE a; intro a hE
      replace hM : Mem _ _ w20 [_, _, _, _, _, _, _, _, _, _, _, _, _, _, _, _, _, _, _, _, _, _, _, _, _, _, _] := hM.call0 hN ⟨rfl, trivial⟩; clear hN
      refine s_move hE rfl rfl ?_; clear hE a; intro a hE
      refine s_extract hE rfl rfl rfl ?_; clear hE a; intro a hE
      refine s_extract hE rfl rfl rfl ?_; clear hE a; intro a hE
      refine s_assign hE rfl rfl ?_; clear hE a; intro a hE
      refine s_assign hE rfl rfl ?_; clear hE a; intro a hE
      refine q_nil ?_
      replace hE : Env a 149 [(2, _), (3, _), (4, _), (6, _), (7, _), (20, _), (21, _), (23, _), (24, _), (65, _), (83, _), (112, _), (120, _)] := hE.sel [2, 3, 4, 6, 7, 20, 21, 23, 24, 65, 83, 112, 120] rfl
      refine hK17 _ _ ?_
      refine wp_seq_k (fun K18 hK18 => ?_)
      refine wp_plain [true, true, true, true, true, true, true, true, true, true, false, true, true] rfl rfl ?_
      refine s_move hE rfl rfl ?_; clear hE a; intro a hE
      refine s_bin hE rfl rfl bin_eql rfl ?_; clear hE a; intro a hE
      refine s_move hE rfl rfl ?_; clear hE a; intro a hE
      replace hE := hE.cast 139 rfl (show _ = Value.bool true from (congrArg Value.bool (by first | exact decide_eq_true rfl | rfl | (simp; done) | (simp [hb120]; done))))
      refine g_yes hE rfl rfl ?_
      refine s_move hE rfl rfl ?_; clear hE a; intro a hE
      refine g_yes hE rfl rfl ?_
      obtain ⟨cs141, hs141⟩ := own_rd (hM.get 0 rfl)
      refine s_toStr hE rfl Try.underlying23 Try.underlying5 Try.underlying9 hs141 (by intro X h; cases h) rfl ?_; clear hE a; intro a hE
      refine g_yes hE rfl rfl ?_
      refine s_move hE rfl rfl ?_; clear hE a; intro a hE
      refine g_yes hE rfl rfl ?_
      refine s_toStr hE rfl Try.underlying23 Try.underlying5 Try.underlying9 (hM.get 19 rfl) (by intro X h; cases h) rfl ?_; clear hE a; intro a hE
      refine g_yes hE rfl rfl ?_
      refine s_bin hE rfl rfl bins_str.1 rfl ?_; clear hE a; intro a hE
      refine s_pickt hE rfl rfl rfl ?_; clear hE a; intro a hE
      refine s_move hE rfl rfl ?_; clear hE a; intro a hE
      replace hE := hE.cast 146 rfl (show _ = Value.bool true from (congrArg Value.bool (by first | exact decide_eq_true rfl | rfl | (simp; done) | (simp [hb120]; done))))
      refine g_yes hE rfl rfl ?_
      refine s_call hE rfl Try.call16 (works_c _) rfl ?_
      rintro e w21 ⟨rfl, hN⟩
      refine ⟨_, rfl, trivial, ?_⟩; clear hE a; intro a hE
      replace hM : Mem _ _ w21 [_, _, _, _, _, _, _, _, _, _, _, _, _, _, _, _, _, _, _, _, _, _, _, _, _, _, _] := hM.call0 hN trivial; clear hN
      refine s_pickt hE rfl rfl rfl ?_; clear hE a; intro a hE
      refine s_assign hE rfl rfl ?_; clear hE a; intro a hE
      refine q_nil ?_
      replace hE : Env a 149 [(2, _), (3, _), (4, _), (6, _), (7, _), (20, _), (21, _), (65, _), (83, _), (112, _), (120, _)] := hE.sel [2, 3, 4, 6, 7, 20, 21, 65, 83, 112, 120] rfl
      refine hK18 _ _ ?_
      refine wp_ret ?_
      refine f_ret1 hE rfl rfl ?_
      exact ⟨rfl, hM.nil⟩
  · replace hE := hE'; clear hE'
    replace hb76 : dx ≠ dy := by
      have := of_decide_eq_false hb76
      intro h; subst h; exact this rfl
    refine g_no (b := false) hE rfl rfl rfl ?_; clear hE a; intro a hE
    refine g_no (b := false) hE rfl rfl rfl ?_; clear hE a; intro a hE
    refine g_no (b := false) hE rfl rfl rfl ?_; clear hE a; intro a hE
    refine g_no (b := false) hE rfl rfl rfl ?_; clear hE a; intro a hE
    refine g_no (b := false) hE rfl rfl rfl ?_; clear hE a; intro a hE
    refine s_pickf hE rfl rfl rfl ?_; clear hE a; intro a hE
    refine s_bin hE rfl rfl (bins_bool Try.underlying4).2 rfl ?_; clear hE a; intro a hE
    refine q_nil ?_
    replace hE : Env a 149 [(2, _), (3, _), (4, _), (6, _), (7, _), (65, _), (83, _)] := hE.sel [2, 3, 4, 6, 7, 65, 83] rfl
    refine hK9 _ _ ?_
    replace hE := hE.cast 83 rfl (show _ = Value.bool false from (congrArg Value.bool (by first | (simp [hPQ, hb76]; done) | (have h9 := hPQ; rw [hb76] at h9; simp [hb76, h9]))))
    refine wp_cond_false (hE.eval rfl) ?_
    refine wp_skip ?_
    refine hK8 _ _ ?_
    refine wp_seq_k (fun K10 hK10 => ?_)
    refine wp_plain [true, true, true, true, true, false, true, true, true, true, true, true, true] rfl rfl ?_
    refine s_move hE rfl rfl ?_; clear hE a; intro a hE
    refine s_move hE rfl rfl ?_; clear hE a; intro a hE
    refine s_len hE rfl Try.underlying23 (own_slice (hM.get 5 rfl)) rfl ?_; clear hE a; intro a hE
    refine s_bin (r := .int .i64 (((rowBs dx QX QX.length).length - 1 : Nat) : Int)) hE rfl rfl (bin_sub (by rw [wrap_i64 (by omega) (by omega)]; omega)) rfl ?_; clear hE a; intro a hE
    refine s_sliceTo (l := (rowBs dx QX QX.length).length - 1) hE rfl (hM.get 5 rfl) slt23 ⟨_, rfl⟩ (by omega) rfl ?_; clear hE a; intro a hE
    obtain ⟨cl9, hl9⟩ := own_rd (own_subB (l := (rowBs dx QX QX.length).length - 1) (hM.get 5 rfl) (by omega))
    refine s_call hE rfl Try.call13 ((by have h := parts_c ((rowBs dx QX QX.length).take ((rowBs dx QX QX.length).length - 1)) _ _ _ (by rw [show ((rowBs dx QX QX.length).take ((rowBs dx QX QX.length).length - 1)).length = (rowBs dx QX QX.length).length - 1 by simp]; exact hl9) (by first | omega | (simp only [List.length_append, List.length_take, List.length_singleton]; omega)); rw [hless] at h; exact h)) rfl ?_
    rintro e w10 ⟨pv90, vs90, bb90, rfl, hbb, hN⟩
    refine ⟨_, rfl, trivial, ?_⟩; clear hE a; intro a hE
    replace hM : Mem _ _ w10 [_, _, _, _, _, _, _, _, _, _, _, _, _, _, _, _] := hM.callN hN (by intro e he x hx; rcases List.mem_cons.1 he with rfl | he; exact absurd hx List.not_mem_nil; rw [List.mem_singleton.1 he] at hx; exact hbb x hx); clear hN
    clear hbb
    refine s_move hE rfl rfl ?_; clear hE a; intro a hE
    refine s_extract hE rfl rfl rfl ?_; clear hE a; intro a hE
    refine s_extract hE rfl rfl rfl ?_; clear hE a; intro a hE
    refine s_extract hE rfl rfl rfl ?_; clear hE a; intro a hE
    refine s_assign hE rfl rfl ?_; clear hE a; intro a hE
    refine s_assign hE rfl rfl ?_; clear hE a; intro a hE
    refine s_assign hE rfl rfl ?_; clear hE a; intro a hE
    refine q_nil ?_
    replace hE : Env a 149 [(2, _), (3, _), (4, _), (6, _), (7, _), (16, _), (65, _), (83, _)] := hE.sel [2, 3, 4, 6, 7, 16, 65, 83] rfl
    refine hK10 _ _ ?_
    refine wp_seq_k (fun K11 hK11 => ?_)
    refine wp_plain [false, true, false, true, true, true, false, false, false, true, true, true, true, true, true, true] rfl rfl ?_
    refine s_buildSlice (xs := []) ([]) hE hM sl23 rfl rfl rfl (by intro v hv; cases hv) rfl rfl rfl rfl ?_; clear hE a; intro a v95 w11 hE hM'
    clear hM; have hM := hM'; clear hM'
    refine s_move hE rfl rfl ?_; clear hE a; intro a hE
    obtain ⟨cy, hy⟩ := own_rd (hM.get 8 rfl)
    refine s_append hE rfl rfl hM sl23 (Src.rd Try.underlying23 hy (bv_one _)) (len47 (by omega)) (by omega) (by intro X h; cases h) rfl ?_; clear hE a hy; intro a v97 w12 hE hM'
    clear hM; have hM := hM'; clear hM'
    refine s_move hE rfl rfl ?_; clear hE a; intro a hE
    refine s_len hE rfl Try.underlying23 (rd_slice (hM.get 9 rfl)) rfl ?_; clear hE a; intro a hE
    refine s_conv hE rfl (cnv_int Try.underlying3 Try.underlying5 (wrap_u8_ofNat _)) rfl ?_; clear hE a; intro a hE
    refine s_buildSlice (xs := [.tmp 100]) (bv [UInt8.ofNat B.length]) hE hM sl23 rfl rfl rfl (by intro v hv; simp at hv; subst hv; rfl) rfl rfl rfl rfl ?_; clear hE a; intro a v101 w13 hE hM'
    clear hM; have hM := hM'; clear hM'
    replace hM : Mem _ _ w13 [_, _, _, _, _, _, _, _, _, _, _, _, _, _, _, _, _, _] := hM.pick [1, 0, 2, 3, 4, 5, 6, 7, 8, 9, 10, 11, 12, 13, 14, 15, 16, 17] rfl
    obtain ⟨cy, hy⟩ := own_rd (hM.get 1 rfl)
    refine s_append hE rfl rfl hM sl23 (Src.rd Try.underlying23 hy (bv_one _)) (len47 (by simp; omega)) (by simp; omega) (by intro X h; cases h) rfl ?_; clear hE a hy; intro a v102 w14 hE hM'
    clear hM; have hM := hM'; clear hM'
    replace hM := hM.ownEq (m' := (rowBs dx QX QX.length ++ [UInt8.ofNat B.length]).length) (cs' := bv (rowBs dx QX QX.length ++ [UInt8.ofNat B.length])) (by simp) (by simp)
    obtain ⟨csm, hsm⟩ := own_rd (hM.get 0 rfl)
    refine s_call hE rfl Try.call13 ((by have h := parts_c (rowBs dx QX QX.length ++ [UInt8.ofNat B.length]) _ _ _ hsm (by first | omega | (simp only [List.length_append, List.length_take, List.length_singleton]; omega)); rw [hmoreG] at h; exact h)) rfl ?_
    rintro e w15 ⟨pv103, vs103, bb103, rfl, hbb, hN⟩
    refine ⟨_, rfl, trivial, ?_⟩; clear hE a; intro a hE
    replace hM : Mem _ _ w15 [_, _, _, _, _, _, _, _, _, _, _, _, _, _, _, _, _, _, _, _] := hM.callN hN (by intro e he x hx; rcases List.mem_cons.1 he with rfl | he; exact absurd hx List.not_mem_nil; rw [List.mem_singleton.1 he] at hx; exact hbb x hx); clear hN
    clear hbb
    refine s_move hE rfl rfl ?_; clear hE a; intro a hE
    refine s_extract hE rfl rfl rfl ?_; clear hE a; intro a hE
    refine s_extract hE rfl rfl rfl ?_; clear hE a; intro a hE
    refine s_extract hE rfl rfl rfl ?_; clear hE a; intro a hE
    refine s_assign hE rfl rfl ?_; clear hE a; intro a hE
    refine s_assign hE rfl rfl ?_; clear hE a; intro a hE
    refine s_assign hE rfl rfl ?_; clear hE a; intro a hE
    refine q_nil ?_
    replace hE : Env a 149 [(2, _), (3, _), (4, _), (6, _), (7, _), (16, _), (19, _), (65, _), (83, _)] := hE.sel [2, 3, 4, 6, 7, 16, 19, 65, 83] rfl
    refine hK11 _ _ ?_
    refine wp_seq_k (fun K12 hK12 => ?_)
    refine wp_seq_k (fun K13 hK13 => ?_)
    refine wp_plain [true, true, true, true, true, true] rfl rfl ?_
    refine s_move hE rfl rfl ?_; clear hE a; intro a hE
    refine s_bin hE rfl rfl bin_eql rfl ?_; clear hE a; intro a hE
    refine s_move hE rfl rfl ?_; clear hE a; intro a hE
    replace hE := hE.cast 109 rfl (show _ = Value.bool false from (congrArg Value.bool (by first | exact decide_eq_true rfl | rfl | (simp; done) | (simp [hb120]; done))))
    refine g_yes hE rfl rfl ?_
    refine s_move hE rfl rfl ?_; clear hE a; intro a hE
    refine g_yes hE rfl rfl ?_
    refine s_bin hE rfl rfl bin_eql rfl ?_; clear hE a; intro a hE
    refine s_pickf hE rfl rfl rfl ?_; clear hE a; intro a hE
    refine q_nil ?_
    replace hE : Env a 149 [(2, _), (3, _), (4, _), (6, _), (7, _), (65, _), (83, _), (112, _)] := hE.sel [2, 3, 4, 6, 7, 65, 83, 112] rfl
    refine hK13 _ _ ?_
    replace hE := hE.cast 112 rfl (show _ = Value.bool false from (congrArg Value.bool (by first | exact decide_eq_true rfl | rfl | (simp; done) | (simp [hb120]; done))))
    refine wp_cond_false (hE.eval rfl) ?_
    refine wp_skip ?_
    refine hK12 _ _ ?_
    refine wp_seq_k (fun K14 hK14 => ?_)
    refine wp_plain [true, false, true, true, true, true, true, true, true] rfl rfl ?_
    refine s_move hE rfl rfl ?_; clear hE a; intro a hE
    refine s_call hE rfl Try.call13 ((by have h := parts_c (B) _ _ _ (hM.get 12 rfl) (by first | omega | (simp only [List.length_append, List.length_take, List.length_singleton]; omega)); exact h)) rfl ?_
    rintro e w16 ⟨pv115, vs115, bb115, rfl, hbb, hN⟩
    refine ⟨_, rfl, trivial, ?_⟩; clear hE a; intro a hE
    replace hM : Mem _ _ w16 [_, _, _, _, _, _, _, _, _, _, _, _, _, _, _, _, _, _, _, _, _, _] := hM.callN hN (by intro e he x hx; rcases List.mem_cons.1 he with rfl | he; exact absurd hx List.not_mem_nil; rw [List.mem_singleton.1 he] at hx; exact hbb x hx); clear hN
    clear hbb
    refine s_move hE rfl rfl ?_; clear hE a; intro a hE
    refine s_extract hE rfl rfl rfl ?_; clear hE a; intro a hE
    refine s_extract hE rfl rfl rfl ?_; clear hE a; intro a hE
    refine s_extract hE rfl rfl rfl ?_; clear hE a; intro a hE
    refine s_assign hE rfl rfl ?_; clear hE a; intro a hE
    refine s_assign hE rfl rfl ?_; clear hE a; intro a hE
    refine s_assign hE rfl rfl ?_; clear hE a; intro a hE
    refine q_nil ?_
    replace hE : Env a 149 [(2, _), (3, _), (4, _), (6, _), (7, _), (20, _), (21, _), (22, _), (65, _), (83, _), (112, _)] := hE.sel [2, 3, 4, 6, 7, 20, 21, 22, 65, 83, 112] rfl
    refine hK14 _ _ ?_
    refine wp_seq_k (fun K15 hK15 => ?_)
    refine wp_seq_k (fun K16 hK16 => ?_)
    refine wp_plain [true, true] rfl rfl ?_
    refine s_move hE rfl rfl ?_; clear hE a; intro a hE
    refine s_bin hE rfl rfl bin_neq rfl ?_; clear hE a; intro a hE
    refine q_nil ?_
    replace hE : Env a 149 [(2, _), (3, _), (4, _), (6, _), (7, _), (20, _), (21, _), (65, _), (83, _), (112, _), (120, _)] := hE.sel [2, 3, 4, 6, 7, 20, 21, 65, 83, 112, 120] rfl
    refine hK16 _ _ ?_
    refine hE.split 120 rfl (fun hb120 hE' => ?_) (fun hb120 hE' => ?_)
    · replace hE := hE'; clear hE'
      replace hb120 : pParts B = (0, [], 4) := (pParts_code B).resolve_left (by intro h; rw [h] at hb120; simp at hb120)
      rw [hb120] at hE hM
      refine wp_cond_true (hE.eval rfl) ?_
      refine wp_seq_k (fun K17 hK17 => ?_)
      refine wp_plain [true, true, true, true, true, true, true, true, false, true, true] rfl rfl ?_
      refine s_move hE rfl rfl ?_; clear hE a; intro a hE
      refine s_len hE rfl Try.underlying22 (own_slice (hM.get 0 rfl)) rfl ?_; clear hE a; intro a hE
      refine s_bin hE rfl rfl bin_eql rfl ?_; clear hE a; intro a hE
      refine s_move hE rfl rfl ?_; clear hE a; intro a hE
      replace hE := hE.cast 124 rfl (show _ = Value.bool true from (congrArg Value.bool (by first | exact decide_eq_true rfl | rfl | (simp; done) | (simp [hb120]; done))))
      refine g_yes hE rfl rfl ?_
      refine s_move hE rfl rfl ?_; clear hE a; intro a hE
      refine g_yes hE rfl rfl ?_
      refine s_bin hE rfl rfl bin_eql rfl ?_; clear hE a; intro a hE
      refine s_pickt hE rfl rfl rfl ?_; clear hE a; intro a hE
      refine s_move hE rfl rfl ?_; clear hE a; intro a hE
      replace hE := hE.cast 128 rfl (show _ = Value.bool true from (congrArg Value.bool (by first | exact decide_eq_true rfl | rfl | (simp; done) | (simp [hb120]; done))))
      refine g_yes hE rfl rfl ?_
      refine s_call hE rfl Try.call16 (works_c _) rfl ?_
      rintro e w17 ⟨rfl, hN⟩
      refine ⟨_, rfl, trivial, ?_⟩; clear hE a; intro a hE
      replace hM : Mem _ _ w17 [_, _, _, _, _, _, _, _, _, _, _, _, _, _, _, _, _, _, _, _, _, _] := hM.call0 hN trivial; clear hN
      refine s_pickt hE rfl rfl rfl ?_; clear hE a; intro a hE
      refine s_assign hE rfl rfl ?_; clear hE a; intro a hE
      refine q_nil ?_
      replace hE : Env a 149 [(2, _), (3, _), (4, _), (6, _), (7, _), (20, _), (21, _), (65, _), (83, _), (112, _), (120, _)] := hE.sel [2, 3, 4, 6, 7, 20, 21, 65, 83, 112, 120] rfl
      refine hK17 _ _ ?_
      refine wp_ret ?_
      refine q_then_r ?_
      refine f_ret1 hE rfl rfl ?_
      exact ⟨rfl, hM.nil⟩
    · replace hE := hE'; clear hE'
      replace hb120 : (pParts B).2.2 = 0 := by simp at hb120; omega
      refine wp_cond_false (hE.eval rfl) ?_
      refine wp_skip ?_
      refine hK15 _ _ ?_
      refine wp_seq_k (fun K17 hK17 => ?_)
      refine wp_plain [true, true, false, true, true, true, true, true] rfl rfl ?_
      refine s_move hE rfl rfl ?_; clear hE a; intro a hE
      refine s_move hE rfl rfl ?_; clear hE a; intro a hE
      obtain ⟨csmm, hsmm⟩ := own_rd (hM.get 0 rfl)
      refine s_call hE rfl Try.call11 ((by have h := row_c (pParts B).1 _ (pParts B).2.1 _ _ _ _ hsmm (hM.get 1 rfl) (by have h3 := (pParts_back hb120).2.2; have h4 := congrArg List.length h3; rw [rowBs_length] at h4; omega); rw [pRow_back hb120] at h; exact h)) rfl ?_
      rintro e w17 ⟨vag, rfl, hN⟩
      refine ⟨_, rfl, trivial, ?_⟩; clear hE a; intro a hE
      replace hM : Mem _ _ w17 [_, _, _, _, _, _, _, _, _, _, _, _, _, _, _, _, _, _, _, _, _, _, _] := hM.call0 hN ⟨rfl, trivial⟩; clear hN
      refine s_move hE rfl rfl ?_; clear hE a; intro a hE
      refine s_extract hE rfl rfl rfl ?_; clear hE a; intro a hE
      refine s_extract hE rfl rfl rfl ?_; clear hE a; intro a hE
      refine s_assign hE rfl rfl ?_; clear hE a; intro a hE
      refine s_assign hE rfl rfl ?_; clear hE a; intro a hE
      refine q_nil ?_
      replace hE : Env a 149 [(2, _), (3, _), (4, _), (6, _), (7, _), (20, _), (21, _), (23, _), (24, _), (65, _), (83, _), (112, _), (120, _)] := hE.sel [2, 3, 4, 6, 7, 20, 21, 23, 24, 65, 83, 112, 120] rfl
      refine hK17 _ _ ?_
      refine wp_seq_k (fun K18 hK18 => ?_)
      refine wp_plain [true, true, true, true, true, true, true, true, true, true, false, true, true] rfl rfl ?_
      refine s_move hE rfl rfl ?_; clear hE a; intro a hE
      refine s_bin hE rfl rfl bin_eql rfl ?_; clear hE a; intro a hE
      refine s_move hE rfl rfl ?_; clear hE a; intro a hE
      replace hE := hE.cast 139 rfl (show _ = Value.bool true from (congrArg Value.bool (by first | exact decide_eq_true rfl | rfl | (simp; done) | (simp [hb120]; done))))
      refine g_yes hE rfl rfl ?_
      refine s_move hE rfl rfl ?_; clear hE a; intro a hE
      refine g_yes hE rfl rfl ?_
      obtain ⟨cs141, hs141⟩ := own_rd (hM.get 0 rfl)
      refine s_toStr hE rfl Try.underlying23 Try.underlying5 Try.underlying9 hs141 (by intro X h; cases h) rfl ?_; clear hE a; intro a hE
      refine g_yes hE rfl rfl ?_
      refine s_move hE rfl rfl ?_; clear hE a; intro a hE
      refine g_yes hE rfl rfl ?_
      refine s_toStr hE rfl Try.underlying23 Try.underlying5 Try.underlying9 (hM.get 15 rfl) (by intro X h; cases h) rfl ?_; clear hE a; intro a hE
      refine g_yes hE rfl rfl ?_
      refine s_bin hE rfl rfl bins_str.1 rfl ?_; clear hE a; intro a hE
      refine s_pickt hE rfl rfl rfl ?_; clear hE a; intro a hE
      refine s_move hE rfl rfl ?_; clear hE a; intro a hE
      replace hE := hE.cast 146 rfl (show _ = Value.bool true from (congrArg Value.bool (by first | exact decide_eq_true rfl | rfl | (simp; done) | (simp [hb120]; done))))
      refine g_yes hE rfl rfl ?_
      refine s_call hE rfl Try.call16 (works_c _) rfl ?_
      rintro e w18 ⟨rfl, hN⟩
      refine ⟨_, rfl, trivial, ?_⟩; clear hE a; intro a hE
      replace hM : Mem _ _ w18 [_, _, _, _, _, _, _, _, _, _, _, _, _, _, _, _, _, _, _, _, _, _, _] := hM.call0 hN trivial; clear hN
      refine s_pickt hE rfl rfl rfl ?_; clear hE a; intro a hE
      refine s_assign hE rfl rfl ?_; clear hE a; intro a hE
      refine q_nil ?_
      replace hE : Env a 149 [(2, _), (3, _), (4, _), (6, _), (7, _), (20, _), (21, _), (65, _), (83, _), (112, _), (120, _)] := hE.sel [2, 3, 4, 6, 7, 20, 21, 65, 83, 112, 120] rfl
      refine hK18 _ _ ?_
      refine wp_ret ?_
      refine f_ret1 hE rfl rfl ?_
      exact ⟨rfl, hM.nil⟩
set_option maxRecDepth 100000 in
theorem bytesApart_lifted (os : Os) (started : os.Started) (H : Type) (enc : TypeId × Value → H) :
    ReturnsInHanded {} Try.checked os 4 .any (Rows.bytesApartSpec.pre6 enc Try.prog Try.f4 Rows.bytesApartRow.domain false) (Rows.bytesApartSpec.post enc Try.prog Try.f4 false true false false) := by
  refine law_lifted (C := Try.checked) (fn := Try.f4) (by kernel_rfl) started (by kernel_rfl) Try.func4 rfl (fun ds hl => ?_) rfl Try.underlying4 (by kernel_rfl) (of_decide_eq_true (by kernel_rfl)) (ChangeSpec.witness6 (enc := enc) (C := Try.checked) false ⟨#[], #[.agg #[.int .u8 0, .slice none 0 0], .agg #[.int .u8 0, .slice none 0 0], .slice none 0 0], []⟩ 8 (by kernel_rfl) (by kernel_rfl) (by kernel_rfl) (by kernel_rfl)) ?_
  · rw [Try.params4] at hl
    match ds, hl with
    | [_, _, _], _ => rfl
  · intro W base args ds ps hval hA hw
    rw [Try.params4] at hA hval hw
    obtain ⟨v0, vs0, d0, ds0, p0, q0, hargs, rfl, rfl, h0, r0⟩ := trodAll_cons hA
    obtain ⟨v1, vs1, d1, ds1, p1, q1, rfl, rfl, rfl, h1, r1⟩ := trodAll_cons r0
    obtain ⟨v2, vs2, d2, ds2, p2, q2, rfl, rfl, rfl, h2, r2⟩ := trodAll_cons r1
    obtain ⟨rfl, rfl, rfl⟩ := trodAll_nil r2
    obtain rfl : args = #[v0, v1, v2] := by cases args; simp_all
    obtain ⟨cs0, rfl, hcs0⟩ := okWide_struct Try.underlying38 (hval 0 38 v0 rfl rfl)
    obtain ⟨hl0, hp0⟩ := trod_of (dec_structL (t := 38) (s := 2) [(5, 0, 1, _), (22, 1, 1, _)] Try.underlying38 (by kernel_rfl) (by kernel_rfl) (by
      intro p hp; simp only [List.mem_cons, List.not_mem_nil, or_false] at hp
      rcases hp with rfl | rfl
      · exact dec_int Try.underlying5
      · exact dec_parts Try.underlying22 (by kernel_rfl) (by kernel_rfl) Try.underlying23 Try.underlying5 (by kernel_rfl) (by kernel_rfl))) h0 (fun m hm => hw m (by simp only [DataW.weightsEach, List.mem_append]; exact .inl hm))
    obtain ⟨a0, b0, hc0⟩ := len2 hl0
    rw [hc0] at hp0
    obtain ⟨z0, hz0, hy0, hk0⟩ := hp0 _ (.head _)
    obtain ⟨u0, us0, bb0, ps0, c0, hu0, hr0, hq0, hn0⟩ := hp0 _ (.tail _ (.head _))
    simp only [List.drop_zero, List.drop_succ_cons, List.take_succ_cons, List.take_zero, List.cons.injEq, and_true] at hz0 hu0
    subst hz0 hu0
    obtain ⟨dm0, rfl⟩ := u8_of hy0 hk0
    have ecs0 := agg_of hc0
    subst ecs0
    obtain ⟨cs1, rfl, hcs1⟩ := okWide_struct Try.underlying38 (hval 1 38 v1 rfl rfl)
    obtain ⟨hl1, hp1⟩ := trod_of (dec_structL (t := 38) (s := 2) [(5, 0, 1, _), (22, 1, 1, _)] Try.underlying38 (by kernel_rfl) (by kernel_rfl) (by
      intro p hp; simp only [List.mem_cons, List.not_mem_nil, or_false] at hp
      rcases hp with rfl | rfl
      · exact dec_int Try.underlying5
      · exact dec_parts Try.underlying22 (by kernel_rfl) (by kernel_rfl) Try.underlying23 Try.underlying5 (by kernel_rfl) (by kernel_rfl))) h1 (fun m hm => hw m (by simp only [DataW.weightsEach, List.mem_append]; exact .inr (.inl hm)))
    obtain ⟨a1, b1, hc1⟩ := len2 hl1
    rw [hc1] at hp1
    obtain ⟨z1, hz1, hy1, hk1⟩ := hp1 _ (.head _)
    obtain ⟨u1, us1, bb1, ps1, c1, hu1, hr1, hq1, hn1⟩ := hp1 _ (.tail _ (.head _))
    simp only [List.drop_zero, List.drop_succ_cons, List.take_succ_cons, List.take_zero, List.cons.injEq, and_true] at hz1 hu1
    subst hz1 hu1
    obtain ⟨dm1, rfl⟩ := u8_of hy1 hk1
    have ecs1 := agg_of hc1
    subst ecs1
    obtain ⟨bs2, c2, hr2, hb2⟩ := arg_bytes Try.underlying23 Try.underlying5 (by kernel_rfl) (by kernel_rfl) (hval 2 23 v2 rfl rfl) h2 (fun m hm => hw m (by simp only [DataW.weightsEach, List.mem_append]; exact .inr (.inr (.inl hm))))
    exact bytesApart_c dm0 dm1 b0 b1 v2 us0 us1 bb0 bb1 ps0 ps1 c0 c1 c2 bs2 W hr0 hq0 (Nat.le_trans hn0 (by decide)) hr1 hq1 (Nat.le_trans hn1 (by decide)) hr2

/-- The statement. -/
theorem bytesApart_holds : Rows.BytesApartSaid :=
  OpenClaim.holds_of_wide 4 Try.f4 rfl rfl rfl rfl rfl rfl rfl ⟨rfl, rfl, rfl, rfl, rfl⟩ rfl rfl rfl rfl rfl (by kernel_rfl) Try.func4 (by kernel_rfl)
    (of_decide_eq_true (by kernel_rfl)) (by unfold Func.isWrapper; first | (rw [if_pos (by decide +kernel)]; kernel_rfl) | (rw [if_neg (by decide +kernel)]; exact ⟨rfl, rfl⟩))
    (fun os started H enc _ => bytesApart_lifted os started H enc)
#print axioms bytesApart_holds
end Go.Proofs.Ytfdndkempgnlcaa
