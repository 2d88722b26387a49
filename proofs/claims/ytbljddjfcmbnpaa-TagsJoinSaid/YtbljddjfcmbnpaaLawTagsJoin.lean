/- TagsJoin of casematelaw17 returns true for whatever two tags and sector. No condition. -/
import Derived.Test.YtbljddjfcmbnpaaLt
namespace Go.Proofs.Ytbljddjfcmbnpaa
open Go Go.Kx
open Go.ChangeShapes Go.WideShapes Go.ChangeAt Go.RowKit
theorem eqa31 : ∀ {a b : List UInt8}, a.length = 32 → b.length = 32 → Bin Try.prog .eql 31 (.agg (bv a).toArray) (.agg (bv b).toArray) (.bool (decide (a = b))) ∧ Bin Try.prog .neq 31 (.agg (bv a).toArray) (.agg (bv b).toArray) (.bool (!decide (a = b))) := fun ha hb => bins_arr8 Try.underlying31 (by kernel_rfl) Try.underlying5 (by kernel_rfl) (by kernel_rfl) ha hb
theorem eqa23 : ∀ {a b : List UInt8}, a.length = 64 → b.length = 64 → Bin Try.prog .eql 23 (.agg (bv a).toArray) (.agg (bv b).toArray) (.bool (decide (a = b))) ∧ Bin Try.prog .neq 23 (.agg (bv a).toArray) (.agg (bv b).toArray) (.bool (!decide (a = b))) := fun ha hb => bins_arr8 Try.underlying23 (by kernel_rfl) Try.underlying5 (by kernel_rfl) (by kernel_rfl) ha hb
theorem rep_c (w : World) : Calls Try.prog 10 #[.string (tx [0]), .int .i64 64] w fun e w' => e = .returned (.string (tx (List.replicate 64 0))) ∧ Mem w [] w' [] :=
  (Try.strings_Repeat (tx [0]) 64 w (by decide) (by decide)).mono fun e w' ⟨h1, h2⟩ => ⟨by rw [h1, show Lib.repeatL (tx [0]).data.toList 64 = List.replicate 64 0 from by decide +kernel]; rfl, Mem.ofBelow h2⟩
theorem awake17_c (w : World) : Calls Try.prog 5 #[] w fun e w' => e = .returned (.bool true) ∧ Mem w [] w' [] := by
  have hM := Mem.start0 w
  refine f_enter 12 Try.func5 rfl rfl rfl ?_
  intro a hE
  replace hE : Env a 12 [] := hE
  refine wp_seq_k (fun K1 hK1 => ?_)
  refine wp_plain [true] rfl rfl ?_
  refine s_assign hE rfl rfl ?_; clear hE a; intro a hE
  refine q_nil ?_
  refine hK1 _ _ ?_
  refine wp_seq_k (fun K2 hK2 => ?_)
  refine wp_drawnM hM (by kernel_rfl) (fun _ => False) [(0, true), (1, false), (2, true), (3, false), (4, true), (5, true), (6, true), (7, false), (8, true), (9, true), (10, true), (11, true)] [(1, [(2, 1), (3, 1), (4, 3), (5, 2), (6, 3), (7, 6), (8, 6), (9, 8), (10, 9), (11, 1)]), (3, [(4, 3), (5, 4), (6, 3), (7, 6), (8, 6), (9, 8), (10, 9), (11, 3)]), (7, [(8, 7), (9, 8), (10, 9), (11, 7)])] (by kernel_rfl) rfl ?_
  intro w1 hM' hww1; clear hM; have hM := hM'; clear hM'
  refine s_build (r := .agg (bv (List.replicate 64 0)).toArray) _ hE rfl (fun w => by kernel_rfl) rfl ?_; clear hE a; intro a hE
  refine s_call hE rfl Try.call9 (leaftext_c 258 (List.replicate 64 0) _ (by simp)) rfl ?_
  rintro e w2 ⟨vl, rfl, hN⟩
  refine ⟨_, rfl, hN.sta0 _, ?_⟩; clear hE a; intro a hE
  replace hM : Mem _ _ w2 [_] := hM.call0 hN ⟨rfl, trivial⟩; clear hN
  obtain ⟨cs3, hs3⟩ := own_rd (hM.get 0 rfl)
  refine s_toStr hE rfl Try.underlying24 Try.underlying5 Try.underlying9 hs3 (by intro X h; cases h; simp) rfl ?_; clear hE a; intro a hE
  refine s_call hE rfl Try.call10 (rep_c _) rfl ?_
  rintro e w3 ⟨rfl, hN⟩
  refine ⟨_, rfl, hN.sta0 _, ?_⟩; clear hE a; intro a hE
  replace hM : Mem _ _ w3 [_] := hM.call0 hN trivial; clear hN
  refine s_bin hE rfl rfl (bin_add_str (by decide)) rfl ?_; clear hE a; intro a hE
  refine s_bin hE rfl rfl bins_str.1 rfl ?_; clear hE a; intro a hE
  refine s_move hE rfl rfl ?_; clear hE a; intro a hE
  replace hE := hE.cast 7 rfl (show _ = Value.bool true from (congrArg Value.bool (by decide +kernel)))
  refine g_yes hE rfl rfl ?_
  refine s_call hE rfl Try.call11 (roottext_c (.slice none 0 0) [] 0 _ ⟨rfl, .inl ⟨none, rfl, rfl, rfl⟩⟩ (by decide)) rfl ?_
  rintro e w4 ⟨vr, rfl, hN⟩
  refine ⟨_, rfl, hN.sta0 _, ?_⟩; clear hE a; intro a hE
  replace hM : Mem _ _ w4 [_, _] := hM.call0 hN ⟨rfl, trivial⟩; clear hN
  refine g_yes hE rfl rfl ?_
  obtain ⟨cs9, hs9⟩ := own_rd (hM.get 0 rfl)
  refine s_toStr hE rfl Try.underlying24 Try.underlying5 Try.underlying9 hs9 (by intro X h; cases h; simp) rfl ?_; clear hE a; intro a hE
  refine g_yes hE rfl rfl ?_
  refine s_bin hE rfl rfl bins_str.1 rfl ?_; clear hE a; intro a hE
  refine s_pickt hE rfl rfl rfl ?_; clear hE a; intro a hE
  refine s_assign hE rfl rfl ?_; clear hE a; intro a hE
  refine q_nil ?_
  replace hE : Env a 12 [(0, _)] := hE.sel [0] rfl
  refine hK2 _ _ ?_
  refine wp_ret ?_
  refine f_ret1 hE rfl rfl ?_
  exact ⟨by first | rfl | (refine congrArg _ (congrArg Value.bool ?_); decide +kernel), hM.nil⟩
theorem tagsJoin_c (p q s : List UInt8) (w : World) (hp : p.length = 32) (hq : q.length = 32) (hs : s.length = 64) : Calls Try.prog 4 #[.agg (bv p).toArray, .agg (bv q).toArray, .agg (bv s).toArray] w fun e w' => e = .returned (.bool true) ∧ Mem w [] w' [] := by
  have hM := Mem.start0 w
  refine f_enter 36 Try.func4 rfl rfl rfl ?_
  intro a hE
  replace hE : Env a 36 [(0, _), (1, _), (2, _)] := hE
  refine wp_seq_k (fun K1 hK1 => ?_)
  refine wp_plain [false, false, false, true] rfl rfl ?_
  refine s_box (ss := [bv p]) [32] hE hM rfl (by simp [Value.cells]) (by simp [hp, hq, hs]) rfl ?_; clear hE a; intro a b3 w1 hE hM'
  clear hM; have hM := hM'; clear hM'
  refine s_box (ss := [bv q]) [32] hE hM rfl (by simp [Value.cells]) (by simp [hp, hq, hs]) rfl ?_; clear hE a; intro a b4 w2 hE hM'
  clear hM; have hM := hM'; clear hM'
  refine s_box (ss := [bv s]) [64] hE hM rfl (by simp [Value.cells]) (by simp [hp, hq, hs]) rfl ?_; clear hE a; intro a b5 w3 hE hM'
  clear hM; have hM := hM'; clear hM'
  refine s_assign hE rfl rfl ?_; clear hE a; intro a hE
  refine q_nil ?_
  replace hE : Env a 36 [(3, _), (4, _), (5, _), (6, _)] := hE.sel [3, 4, 5, 6] rfl
  refine hK1 _ _ ?_
  refine wp_seq_k (fun K2 hK2 => ?_)
  refine wp_plain [true, true, false, false, true, true, true, false, false, false, false] rfl rfl ?_
  refine s_loadN hE rfl (hM.get 2 rfl) row31 rfl (by intro X h; cases h) rfl ?_; clear hE a; intro a hE
  refine s_loadN hE rfl (hM.get 1 rfl) row31 rfl (by intro X h; cases h) rfl ?_; clear hE a; intro a hE
  refine s_call hE rfl Try.call8 (join_c p q _ hp hq) rfl ?_
  rintro e w4 ⟨rfl, hN⟩
  refine ⟨_, rfl, trivial, ?_⟩; clear hE a; intro a hE
  replace hM : Mem _ _ w4 [_, _, _] := hM.call0 hN trivial; clear hN
  refine s_call hE rfl Try.call7 (split_c (p ++ q) _ (by simp [hp, hq])) rfl ?_
  rintro e w5 ⟨rfl, hN⟩
  refine ⟨_, rfl, trivial, ?_⟩; clear hE a; intro a hE
  replace hM : Mem _ _ w5 [_, _, _] := hM.call0 hN trivial; clear hN
  refine s_move hE rfl rfl ?_; clear hE a; intro a hE
  refine s_extract hE rfl rfl rfl ?_; clear hE a; intro a hE
  refine s_extract hE rfl rfl rfl ?_; clear hE a; intro a hE
  refine s_alloc [32] hE hM zero31 rfl rfl ?_; clear hE a; intro a b7 w6 hE hM'
  clear hM; have hM := hM'; clear hM'
  refine s_alloc [32] hE hM zero31 rfl rfl ?_; clear hE a; intro a b8 w7 hE hM'
  clear hM; have hM := hM'; clear hM'
  replace hM : Mem _ _ w7 [_, _, _, _, _] := hM.pick [1, 0, 2, 3, 4] rfl
  refine s_storeSeg 0 hE rfl rfl hM rfl sz31 (by simp [hp, hq]) (bv_one _) rfl (by simp [hp, hq]) rfl (by intro X h; cases h) ?_; intro w8 hM'; clear hM; have hM := hM'; clear hM'
  simp only [List.set_cons_zero, List.set_cons_succ] at hM
  replace hM : Mem _ _ w8 [_, _, _, _, _] := hM.pick [1, 0, 2, 3, 4] rfl
  refine s_storeSeg 0 hE rfl rfl hM rfl sz31 (by simp [hp, hq]) (bv_one _) rfl (by simp [hp, hq]) rfl (by intro X h; cases h) ?_; intro w9 hM'; clear hM; have hM := hM'; clear hM'
  simp only [List.set_cons_zero, List.set_cons_succ] at hM
  refine q_nil ?_
  replace hE : Env a 36 [(3, _), (4, _), (5, _), (6, _), (7, _), (8, _)] := hE.sel [3, 4, 5, 6, 7, 8] rfl
  refine hK2 _ _ ?_
  refine wp_seq_k (fun K3 hK3 => ?_)
  refine wp_drawnM hM (by kernel_rfl) (fun _ => False) [(0, true), (1, true), (2, true), (3, true), (4, true), (5, true), (6, true), (7, true), (8, true), (9, true), (14, true), (10, false), (11, true), (12, true), (13, false), (15, true), (16, true), (17, true), (18, false), (19, true), (20, true)] [(10, [(11, 10), (12, 10), (13, 10), (15, 13), (16, 15), (17, 16), (18, 17), (19, 17), (20, 10)]), (13, [(15, 13), (16, 15), (17, 13), (18, 17), (19, 17), (20, 13)]), (18, [(19, 18), (20, 18)])] (by kernel_rfl) rfl ?_
  intro w10 hM' hww10; clear hM; have hM := hM'; clear hM'
  refine s_loadN hE rfl (hM.get 1 rfl) row31 rfl (by intro X h; cases h; simp) rfl ?_; clear hE a; intro a hE
  refine s_loadN hE rfl (hM.get 4 rfl) row31 rfl (by intro X h; cases h; simp) rfl ?_; clear hE a; intro a hE
  refine s_bin hE rfl rfl (eqa31 (by simp [hp, hq, hs]) (by simp [hp, hq, hs])).1 rfl ?_; clear hE a; intro a hE
  refine s_move hE rfl rfl ?_; clear hE a; intro a hE
  replace hE := hE.cast 19 rfl (show _ = Value.bool true from (congrArg Value.bool (decide_eq_true (by simp [List.take_left' hp, List.drop_left' hp]))))
  refine g_yes hE rfl rfl ?_
  refine s_loadN hE rfl (hM.get 0 rfl) row31 rfl (by intro X h; cases h; simp) rfl ?_; clear hE a; intro a hE
  refine g_yes hE rfl rfl ?_
  refine s_loadN hE rfl (hM.get 3 rfl) row31 rfl (by intro X h; cases h; simp) rfl ?_; clear hE a; intro a hE
  refine g_yes hE rfl rfl ?_
  refine s_bin hE rfl rfl (eqa31 (by simp [hp, hq, hs]) (by simp [hp, hq, hs])).1 rfl ?_; clear hE a; intro a hE
  refine s_pickt hE rfl rfl rfl ?_; clear hE a; intro a hE
  refine s_move hE rfl rfl ?_; clear hE a; intro a hE
  replace hE := hE.cast 24 rfl (show _ = Value.bool true from (congrArg Value.bool (decide_eq_true (by simp [List.take_left' hp, List.drop_left' hp]))))
  refine g_yes hE rfl rfl ?_
  refine s_loadN hE rfl (hM.get 2 rfl) row23 rfl (by intro X h; cases h; simp) rfl ?_; clear hE a; intro a hE
  refine g_yes hE rfl rfl ?_
  refine s_loadN hE rfl (hM.get 2 rfl) row23 rfl (by intro X h; cases h; simp) rfl ?_; clear hE a; intro a hE
  refine g_yes hE rfl rfl ?_
  refine s_call hE rfl Try.call7 (split_c s _ hs) rfl ?_
  rintro e w11 ⟨rfl, hN⟩
  refine ⟨_, rfl, hN.sta0 _, ?_⟩; clear hE a; intro a hE
  replace hM : Mem _ _ w11 [_, _, _, _, _] := hM.call0 hN trivial; clear hN
  refine g_yes hE rfl rfl ?_
  refine s_extract hE rfl rfl rfl ?_; clear hE a; intro a hE
  refine g_yes hE rfl rfl ?_
  refine s_extract hE rfl rfl rfl ?_; clear hE a; intro a hE
  refine g_yes hE rfl rfl ?_
  refine s_call hE rfl Try.call8 (join_c (s.take 32) (s.drop 32) _ (by simp [hs]) (by simp [hs])) rfl ?_
  rintro e w12 ⟨rfl, hN⟩
  refine ⟨_, rfl, hN.sta0 _, ?_⟩; clear hE a; intro a hE
  replace hM : Mem _ _ w12 [_, _, _, _, _] := hM.call0 hN trivial; clear hN
  refine g_yes hE rfl rfl ?_
  refine s_bin hE rfl rfl (eqa23 (by simp [hp, hq, hs]) (by simp [hp, hq, hs])).1 rfl ?_; clear hE a; intro a hE
  refine s_pickt hE rfl rfl rfl ?_; clear hE a; intro a hE
  refine s_move hE rfl rfl ?_; clear hE a; intro a hE
  replace hE := hE.cast 33 rfl (show _ = Value.bool true from (congrArg Value.bool (decide_eq_true (by simp [List.take_left' hp, List.drop_left' hp]))))
  refine g_yes hE rfl rfl ?_
  refine s_call hE rfl Try.call5 (awake17_c _) rfl ?_
  rintro e w13 ⟨rfl, hN⟩
  refine ⟨_, rfl, hN.sta0 _, ?_⟩; clear hE a; intro a hE
  replace hM : Mem _ _ w13 [_, _, _, _, _] := hM.call0 hN trivial; clear hN
  refine s_pickt hE rfl rfl rfl ?_; clear hE a; intro a hE
  refine s_assign hE rfl rfl ?_; clear hE a; intro a hE
  refine q_nil ?_
  replace hE : Env a 36 [(3, _), (4, _), (6, _), (7, _), (8, _)] := hE.sel [3, 4, 6, 7, 8] rfl
  refine hK3 _ _ ?_
  refine wp_ret ?_
  refine f_ret1 hE rfl rfl ?_
  exact ⟨by first | rfl | simp, hM.nil⟩
set_option maxRecDepth 100000 in
theorem tagsJoin_lifted (os : Os) (started : os.Started) (H : Type) (enc : TypeId × Value → H) :
    ReturnsInHanded {} Try.checked os 4 .any (Rows.tagsJoinSpec.pre6 enc Try.prog Try.f4 Rows.tagsJoinRow.domain false) (Rows.tagsJoinSpec.post enc Try.prog Try.f4 false true false false) := by
  refine law_lifted (C := Try.checked) (fn := Try.f4) (by kernel_rfl) started (by kernel_rfl) Try.func4 rfl (fun ds hl => ?_) rfl Try.underlying4 (by kernel_rfl) (of_decide_eq_true (by kernel_rfl)) (ChangeSpec.witness6 (enc := enc) (C := Try.checked) false ⟨#[], #[.agg (bv (List.replicate 32 0)).toArray, .agg (bv (List.replicate 32 0)).toArray, .agg (bv (List.replicate 64 0)).toArray], []⟩ 8 (by kernel_rfl) (by kernel_rfl) (by kernel_rfl) (by kernel_rfl)) ?_
  · rw [Try.params4] at hl
    match ds, hl with
    | [_, _, _], _ => rfl
  · intro W base args ds ps hval hA hw
    rw [Try.params4] at hA hval hw
    obtain ⟨v0, vs0, d0, ds0, p0, q0, hargs, rfl, rfl, h0, r0⟩ := trodAll_cons hA
    obtain ⟨v1, vs1, d1, ds1, p1, q1, rfl, rfl, rfl, h1, r1⟩ := trodAll_cons r0
    obtain ⟨v2, vs2, d2, ds2, p2, q2, rfl, rfl, rfl, h2, r2⟩ := trodAll_cons r1
    obtain ⟨rfl, rfl, rfl⟩ := trodAll_nil r2
    obtain rfl : args = #[v0, v1, v2] := by cases args; simp_all
    obtain ⟨a0, rfl, ha0⟩ := arg_arr8 Try.underlying31 Try.underlying5 (by kernel_rfl) (by kernel_rfl) (hval 0 31 v0 rfl rfl) h0 (fun m hm => hw m (by simp only [DataW.weightsEach, List.mem_append]; exact .inl hm))
    obtain ⟨a1, rfl, ha1⟩ := arg_arr8 Try.underlying31 Try.underlying5 (by kernel_rfl) (by kernel_rfl) (hval 1 31 v1 rfl rfl) h1 (fun m hm => hw m (by simp only [DataW.weightsEach, List.mem_append]; exact .inr (.inl hm)))
    obtain ⟨a2, rfl, ha2⟩ := arg_arr8 Try.underlying23 Try.underlying5 (by kernel_rfl) (by kernel_rfl) (hval 2 23 v2 rfl rfl) h2 (fun m hm => hw m (by simp only [DataW.weightsEach, List.mem_append]; exact .inr (.inr (.inl hm))))
    exact tagsJoin_c a0 a1 a2 W ha0 ha1 ha2

/-- The statement. -/
theorem tagsJoin_holds : Rows.TagsJoinSaid :=
  OpenClaim.holds_of_wide 4 Try.f4 rfl rfl rfl rfl rfl rfl rfl ⟨rfl, rfl, rfl, rfl, rfl⟩ rfl rfl rfl rfl rfl (by kernel_rfl) Try.func4 (by kernel_rfl)
    (of_decide_eq_true (by kernel_rfl)) (by unfold Func.isWrapper; first | (rw [if_pos (by decide +kernel)]; kernel_rfl) | (rw [if_neg (by decide +kernel)]; exact ⟨rfl, rfl⟩))
    (fun os started H enc _ => tagsJoin_lifted os started H enc)
#print axioms tagsJoin_holds
end Go.Proofs.Ytbljddjfcmbnpaa
