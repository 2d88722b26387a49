/- HmacSame of casematelaw04 returns true for whatever two tags. No condition. -/
import Derived.Test.YtcmikkfekmmheaaDoorLh
import Derived.Test.YtcmikkfekmmheaaDoorTie
import Derived.Test.YtcmikkfekmmheaaDoorCards
namespace Go.Proofs.YtcmikkfekmmheaaDoor
open Go Go.Kx
open Go.ChangeShapes Go.WideShapes Go.ChangeAt Go.RowKit

def allW (a b : List UInt8) : Nat → Bool
  | 0 => true
  | i + 1 => allW a b i && decide (a.getD i 0 = b.getD i 0)
theorem allW_iff {a b : List UInt8} : ∀ n, allW a b n = true ↔ ∀ i, i < n → a.getD i 0 = b.getD i 0
  | 0 => by simp [allW]
  | n + 1 => by
    rw [allW, Bool.and_eq_true, allW_iff n, decide_eq_true_iff]
    constructor
    · rintro ⟨h1, h2⟩ i hi
      rcases Nat.lt_or_eq_of_le (Nat.le_of_lt_succ hi) with h | rfl
      · exact h1 i h
      · exact h2
    · intro h; exact ⟨fun i hi => h i (by omega), h n (by omega)⟩
theorem allW_eq {a b : List UInt8} (ha : a.length = 32) (hb : b.length = 32) : allW a b 32 = decide (a = b) := by
  rw [Bool.eq_iff_iff, allW_iff, decide_eq_true_iff, ← getD_all_eq (by omega), ha]
theorem u8_dec (a b : UInt8) : decide ((a.toNat : Int) = (b.toNat : Int)) = decide (a = b) := by
  apply decide_eq_decide.2
  rw [← UInt8.toNat_inj]; omega
theorem hmacSame_c (x y : List UInt8) (w : World) (hG : (glb 0).holds w) (hx : x.length = 32) (hy : y.length = 32) : Calls Tryd.prog 3 #[.agg (bv x).toArray, .agg (bv y).toArray] w fun e w' => e = .returned (.bool true) ∧ Mem w [] w' [] := by
  have hM := Mem.startR1 hG rfl
  refine f_enter 34 Tryd.func3 rfl rfl rfl ?_
  intro a hE
  replace hE : Env a 34 [(0, _), (1, _)] := hE
  refine wp_seq_k (fun K1 hK1 => ?_)
  refine wp_plain [false, false, true] rfl rfl ?_
  refine s_box (ss := [bv x]) [32] hE hM rfl (by simp [Value.cells]) (by simp [hx, hy]) rfl ?_; clear hE a; intro a b2 w1 hE hM'
  clear hM; have hM := hM'; clear hM'
  refine s_box (ss := [bv y]) [32] hE hM rfl (by simp [Value.cells]) (by simp [hx, hy]) rfl ?_; clear hE a; intro a b3 w2 hE hM'
  clear hM; have hM := hM'; clear hM'
  refine s_assign hE rfl rfl ?_; clear hE a; intro a hE
  refine q_nil ?_
  replace hE : Env a 34 [(2, _), (3, _), (4, _)] := hE.sel [2, 3, 4] rfl
  refine hK1 _ _ ?_
  refine wp_seq_k (fun K2 hK2 => ?_)
  refine wp_plain [true] rfl rfl ?_
  refine s_assign hE rfl rfl ?_; clear hE a; intro a hE
  refine q_nil ?_
  refine hK2 _ _ ?_
  refine wp_seq_k (fun K3 hK3 => ?_)
  refine wp_seq_k (fun K4 hK4 => ?_)
  refine wp_plain [true] rfl rfl ?_
  refine s_assign hE rfl rfl ?_; clear hE a; intro a hE
  refine q_nil ?_
  refine hK4 _ _ ?_
  refine wp_block ?_
  replace hM : Mem _ _ w2 [_, _, _] := hM.pick [1, 0, 2] rfl
  refine c_loop (fun (i : Nat) a w' => i ≤ 32 ∧ Env a 34 [(2, .pointer (some ⟨b2, 0, none⟩)), (3, .pointer (some ⟨b3, 0, none⟩)), (5, .bool (allW x y i)), (6, .int .i64 (i : Int))] ∧ Mem w [] w' [blk b2 [bv x] [32] 23, blk b3 [bv y] [32] 23, glb 0]) (fun i => 32 - i) 0 ⟨Nat.zero_le _, hE.sel [2, 3, 5, 6] rfl, hM⟩ ?_
  clear hE hM a; rintro i a w3 ⟨hi, hE, hM⟩
  refine wp_seq_k (fun K5 hK5 => ?_)
  refine wp_seq_k (fun K6 hK6 => ?_)
  refine wp_plain [true, true] rfl rfl ?_
  refine s_move hE rfl rfl ?_; clear hE a; intro a hE
  refine s_bin hE rfl rfl bin_lss rfl ?_; clear hE a; intro a hE
  refine q_nil ?_
  replace hE : Env a 34 [(2, _), (3, _), (5, _), (6, _), (8, _)] := hE.sel [2, 3, 5, 6, 8] rfl
  refine hK6 _ _ ?_
  refine hE.split 8 rfl (fun hb8 hE' => ?_) (fun hb8 hE' => ?_)
  · replace hE := hE'; clear hE'
    replace hb8 := of_decide_eq_true hb8
    replace hb8 : i < 32 := by omega
    refine wp_cond_true (hE.eval rfl) ?_
    refine wp_skip ?_
    refine hK5 _ _ ?_
    refine wp_seq_k (fun K7 hK7 => ?_)
    refine wp_block ?_
    refine wp_drawnM hM (by kernel_rfl) (fun _ => False) [(0, true), (1, true), (2, true), (3, true), (4, true), (5, true), (6, true), (7, true), (8, true), (9, true), (10, true)] [] (by kernel_rfl) rfl ?_
    intro w4 hM' hww4; clear hM; have hM := hM'; clear hM'
    refine s_move hE rfl rfl ?_; clear hE a; intro a hE
    refine s_move hE rfl rfl ?_; clear hE a; intro a hE
    refine hE.split 12 rfl (fun hb12 hE' => ?_) (fun hb12 hE' => ?_)
    · replace hE := hE'; clear hE'
      refine g_yes hE rfl rfl ?_
      refine s_move hE rfl rfl ?_; clear hE a; intro a hE
      refine g_yes hE rfl rfl ?_
      refine s_indexArr (j := i) hE rfl rfl arr23 (by first | rfl | omega) (by first | omega | decide) rfl ?_; clear hE a; intro a hE
      refine g_yes hE rfl rfl ?_
      refine s_loadIdx (j := i) hE rfl (by omega) (hM.get 0 rfl) (bv_get (by omega)) one5 (by intro X h; cases h; simp) rfl ?_; clear hE a; intro a hE
      refine g_yes hE rfl rfl ?_
      refine s_move hE rfl rfl ?_; clear hE a; intro a hE
      refine g_yes hE rfl rfl ?_
      refine s_indexArr (j := i) hE rfl rfl arr23 (by first | rfl | omega) (by first | omega | decide) rfl ?_; clear hE a; intro a hE
      refine g_yes hE rfl rfl ?_
      refine s_loadIdx (j := i) hE rfl (by omega) (hM.get 1 rfl) (bv_get (by omega)) one5 (by intro X h; cases h; simp) rfl ?_; clear hE a; intro a hE
      refine g_yes hE rfl rfl ?_
      refine s_bin hE rfl rfl bin_eql rfl ?_; clear hE a; intro a hE
      refine s_pickt hE rfl rfl rfl ?_; clear hE a; intro a hE
      refine s_assign hE rfl rfl ?_; clear hE a; intro a hE
      refine q_nil ?_
      replace hE : Env a 34 [(2, _), (3, _), (5, _), (6, _), (8, _)] := hE.sel [2, 3, 5, 6, 8] rfl
      refine q_block_n ?_
      refine hK7 _ _ ?_
      refine wp_plain [true, true, true] rfl rfl ?_
      refine s_move hE rfl rfl ?_; clear hE a; intro a hE
      refine s_bin hE rfl rfl (bin_add (wrap_i64 (by omega) (by omega))) rfl ?_; clear hE a; intro a hE
      refine s_assign hE rfl rfl ?_; clear hE a; intro a hE
      refine q_nil ?_
      replace hE : Env a 34 [(2, _), (3, _), (5, _), (6, _), (8, _)] := hE.sel [2, 3, 5, 6, 8] rfl
      replace hE := hE.cast 6 rfl (show _ = Value.int .i64 ((i + 1 : Nat) : Int) from congrArg _ (by omega))
      replace hE := hE.cast 5 rfl (show _ = Value.bool (allW x y (i + 1)) from congrArg Value.bool (by rw [u8_dec]; simp [allW, hb12]))
      exact ⟨i + 1, ⟨by omega, hE.sel [2, 3, 5, 6] rfl, hM⟩, by omega⟩
    · replace hE := hE'; clear hE'
      refine g_no (b := false) hE rfl rfl rfl ?_; clear hE a; intro a hE
      refine g_no (b := false) hE rfl rfl rfl ?_; clear hE a; intro a hE
      refine g_no (b := false) hE rfl rfl rfl ?_; clear hE a; intro a hE
      refine g_no (b := false) hE rfl rfl rfl ?_; clear hE a; intro a hE
      refine g_no (b := false) hE rfl rfl rfl ?_; clear hE a; intro a hE
      refine g_no (b := false) hE rfl rfl rfl ?_; clear hE a; intro a hE
      refine g_no (b := false) hE rfl rfl rfl ?_; clear hE a; intro a hE
      refine s_pickf hE rfl rfl rfl ?_; clear hE a; intro a hE
      refine s_assign hE rfl rfl ?_; clear hE a; intro a hE
      refine q_nil ?_
      replace hE : Env a 34 [(2, _), (3, _), (5, _), (6, _), (8, _)] := hE.sel [2, 3, 5, 6, 8] rfl
      refine q_block_n ?_
      refine hK7 _ _ ?_
      refine wp_plain [true, true, true] rfl rfl ?_
      refine s_move hE rfl rfl ?_; clear hE a; intro a hE
      refine s_bin hE rfl rfl (bin_add (wrap_i64 (by omega) (by omega))) rfl ?_; clear hE a; intro a hE
      refine s_assign hE rfl rfl ?_; clear hE a; intro a hE
      refine q_nil ?_
      replace hE : Env a 34 [(2, _), (3, _), (5, _), (6, _), (8, _)] := hE.sel [2, 3, 5, 6, 8] rfl
      replace hE := hE.cast 6 rfl (show _ = Value.int .i64 ((i + 1 : Nat) : Int) from congrArg _ (by omega))
      replace hE := hE.cast 5 rfl (show _ = Value.bool (allW x y (i + 1)) from congrArg Value.bool (by simp [allW, hb12]))
      exact ⟨i + 1, ⟨by omega, hE.sel [2, 3, 5, 6] rfl, hM⟩, by omega⟩
  · replace hE := hE'; clear hE'
    replace hb8 := of_decide_eq_false hb8
    replace hb8 : ¬ i < 32 := by omega
    obtain rfl : i = 32 := by omega
    refine wp_cond_false (hE.eval rfl) ?_
    refine wp_exit ?_
    refine q_then_e ?_
    refine q_then_e ?_
    refine q_block_x ?_
    refine hK3 _ _ ?_
    refine wp_seq_k (fun K7 hK7 => ?_)
    refine wp_plain [true, true, false, true, true, true, true, true, false, true, true, false, true, true] rfl rfl ?_
    refine s_loadN hE rfl (hM.get 0 rfl) row23 rfl (by intro X h; cases h) rfl ?_; clear hE a; intro a hE
    refine s_loadN hE rfl (hM.get 1 rfl) row23 rfl (by intro X h; cases h) rfl ?_; clear hE a; intro a hE
    refine s_call hE rfl Tryd.call16 (same_c x y _ hx hy) rfl ?_
    rintro e w4 ⟨rfl, hN⟩
    refine ⟨_, rfl, trivial, ?_⟩; clear hE a; intro a hE
    replace hM : Mem _ _ w4 [_, _, _] := hM.call0 hN trivial; clear hN
    refine s_move hE rfl rfl ?_; clear hE a; intro a hE
    refine s_bin hE rfl rfl (bins_bool Tryd.underlying4).1 rfl ?_; clear hE a; intro a hE
    refine s_move hE rfl rfl ?_; clear hE a; intro a hE
    replace hE := hE.cast 26 rfl (show _ = Value.bool true from (congrArg Value.bool (by rw [allW_eq hx hy]; simp)))
    refine g_yes hE rfl rfl ?_
    refine s_loadN hE rfl (hM.get 1 rfl) row23 rfl (by intro X h; cases h) rfl ?_; clear hE a; intro a hE
    refine g_yes hE rfl rfl ?_
    refine s_loadN hE rfl (hM.get 1 rfl) row23 rfl (by intro X h; cases h) rfl ?_; clear hE a; intro a hE
    refine g_yes hE rfl rfl ?_
    refine s_call hE rfl Tryd.call16 (same_c y y _ hy hy) rfl ?_
    rintro e w5 ⟨rfl, hN⟩
    refine ⟨_, rfl, trivial, ?_⟩; clear hE a; intro a hE
    replace hM : Mem _ _ w5 [_, _, _] := hM.call0 hN trivial; clear hN
    refine s_pickt hE rfl rfl rfl ?_; clear hE a; intro a hE
    refine s_move hE rfl rfl ?_; clear hE a; intro a hE
    replace hE := hE.cast 31 rfl (show _ = Value.bool true from (congrArg Value.bool (by simp)))
    refine g_yes hE rfl rfl ?_
    refine s_call hE rfl Tryd.call17 (works_c _ (hM.get 2 rfl)) rfl ?_
    rintro e w6 ⟨rfl, hN⟩
    refine ⟨_, rfl, trivial, ?_⟩; clear hE a; intro a hE
    replace hM : Mem _ _ w6 [_, _, _] := hM.call0 hN trivial; clear hN
    refine s_pickt hE rfl rfl rfl ?_; clear hE a; intro a hE
    refine s_assign hE rfl rfl ?_; clear hE a; intro a hE
    refine q_nil ?_
    replace hE : Env a 34 [(2, _), (3, _), (4, _), (5, _), (6, _), (8, _)] := hE.sel [2, 3, 4, 5, 6, 8] rfl
    refine hK7 _ _ ?_
    refine wp_ret ?_
    refine f_ret1 hE rfl rfl ?_
    exact ⟨rfl, hM.nil⟩
set_option maxRecDepth 100000 in
theorem hmacSame_lifted (os : Os) (started : os.Started) (H : Type) (enc : TypeId × Value → H) :
    ReturnsInHanded {} Tryd.checked os 3 .any (fun w args => (Rows.hmacSameSpec.pre enc Tryd.prog Tryd.f3 [] false w args ∧ laidMetH Tryd.prog Rows.hmacSameRow.laid w) ∧ sizedMet enc Tryd.prog Tryd.f3 (OpenSpec.ofChange Rows.hmacSameSpec) false w args) (Rows.hmacSameSpec.post enc Tryd.prog Tryd.f3 false true false false) := by
  refine law_liftedL (C := Tryd.checked) (fn := Tryd.f3) (l := Rows.hmacSameRow.laid) (by kernel_rfl) started (by kernel_rfl) Tryd.func3 rfl (fun ds hl => ?_) rfl Tryd.underlying4 (by kernel_rfl) (of_decide_eq_true (by kernel_rfl)) (by kernel_rfl)
    (ChangeSpec.witness_shaped (enc := enc) (C := Tryd.checked) (os := os) (X := fun w _ => laidMetH Tryd.prog Rows.hmacSameRow.laid w) false (World.laidAll Tryd.prog os Rows.hmacSameRow.laid) #[.agg (bv (List.replicate 32 0)).toArray, .agg (bv (List.replicate 32 0)).toArray] 8 (World.laidAll_os _ _ _) (World.shaped_of_ZipB (by kernel_rfl) (by kernel_rfl)) (by kernel_rfl) (by kernel_rfl) (by kernel_rfl) (by rw [MakeChecks.laidMetH_plain _ _ _ (by kernel_rfl)]; exact laidMet_laidAll _ (by kernel_rfl) (by kernel_rfl))) ?_
  · rw [Tryd.params3] at hl
    match ds, hl with
    | [_, _], _ => rfl
  · intro W base args ds ps hval hA hw hL
    have hG := glb_of_laid (P := Tryd.prog) (g := 0) (t := 91) (e := 48) (by kernel_rfl) (by kernel_rfl) Tryd.underlying91 Tryd.underlying48 (by kernel_rfl) (by kernel_rfl) (by kernel_rfl) (show laidMet Tryd.prog (_ :: _) W from hL)
    rw [Tryd.params3] at hA hval hw
    obtain ⟨v0, vs0, d0, ds0, p0, q0, hargs, rfl, rfl, h0, r0⟩ := trodAll_cons hA
    obtain ⟨v1, vs1, d1, ds1, p1, q1, rfl, rfl, rfl, h1, r1⟩ := trodAll_cons r0
    obtain ⟨rfl, rfl, rfl⟩ := trodAll_nil r1
    obtain rfl : args = #[v0, v1] := by cases args; simp_all
    obtain ⟨a0, rfl, ha0⟩ := arg_arr8 Tryd.underlying23 Tryd.underlying5 (by kernel_rfl) (by kernel_rfl) (hval 0 23 v0 rfl rfl) h0 (fun m hm => hw m (by simp only [DataW.weightsEach, List.mem_append]; exact .inl hm))
    obtain ⟨a1, rfl, ha1⟩ := arg_arr8 Tryd.underlying23 Tryd.underlying5 (by kernel_rfl) (by kernel_rfl) (hval 1 23 v1 rfl rfl) h1 (fun m hm => hw m (by simp only [DataW.weightsEach, List.mem_append]; exact .inr (.inl hm)))
    exact hmacSame_c a0 a1 W hG ha0 ha1

/-- The row's statement. -/
theorem hmacSame_row : Rows.HmacSameSaid :=
  OpenClaim.holds_of_wide 3 Tryd.f3 rfl rfl rfl rfl rfl rfl rfl ⟨rfl, rfl, rfl, rfl, rfl⟩ rfl rfl rfl rfl rfl (by kernel_rfl) Tryd.func3 (by kernel_rfl)
    (of_decide_eq_true (by kernel_rfl)) (by unfold Func.isWrapper; first | (rw [if_pos (by decide +kernel)]; kernel_rfl) | (rw [if_neg (by decide +kernel)]; exact ⟨rfl, rfl⟩))
    (fun os started H enc _ => hmacSame_lifted os started H enc)

/-- The statement: the row, its listed variable tied to the program's text. -/
theorem hmacSame_holds : Rows.HmacSameCardSaid :=
  Claim7.holds_tied_plain_at .later [] [.data] true (true, "84ae260bd57be45edc78bdc8f25baf9a88e7d5216b5328ce6ba213109669f402") true
    hmacSame_row (fun _ h => by cases h) (by kernel_rfl) (fun _ h => by cases h) hmacSame_row_tie rfl ⟨rfl, rfl⟩ (by kernel_rfl) rfl
    (fun f fn hf hfn => by
      obtain rfl : f = 3 := Option.some.inj ((show Tryd.prog.funcNamed "casemate/casematelaw04.HmacSame" = some 3 by kernel_rfl).symm.trans hf) |>.symm
      obtain rfl : fn = Tryd.f3 := (Option.some.inj (Tryd.func3.symm.trans hfn)).symm
      exact ⟨by kernel_rfl, fun j t ht => by
        rw [Tryd.params3] at ht
        have h : t ∈ [23, 23] := by
          rcases j with _ | _ | j
          · simp at ht; simp [ht]
          · simp at ht; simp [ht]
          · simp at ht
        simp only [List.mem_cons, List.not_mem_nil, or_false] at h
        rcases h with rfl | rfl
        · exact (show Tryd.prog.wantsStandIn 23 = false by kernel_rfl)
        · exact (show Tryd.prog.wantsStandIn 23 = false by kernel_rfl)⟩)
    (by kernel_rfl)
#print axioms hmacSame_holds
end Go.Proofs.YtcmikkfekmmheaaDoor
