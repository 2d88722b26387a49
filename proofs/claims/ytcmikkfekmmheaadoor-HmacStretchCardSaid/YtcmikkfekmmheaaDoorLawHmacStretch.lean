/- HmacStretch of casematelaw04 returns true for whatever key, bytes and size; they read behind the call as before. No condition. -/
import Derived.Test.YtcmikkfekmmheaaDoorLr
import Derived.Test.YtcmikkfekmmheaaDoorTie
import Derived.Test.YtcmikkfekmmheaaDoorCards
namespace Go.Proofs.YtcmikkfekmmheaaDoor
open Go Go.Kx
open Go.ChangeShapes Go.WideShapes Go.ChangeAt Go.RowKit

theorem hmacStretch_ok (v0 v1 : Value) (b0 b1 : List UInt8) (c0 c1 : Nat) (n : Nat) (hn : n ≤ 8160) (w : World) (hG : (glb 0).holds w) (hr0 : (rd v0 1 b0.length c0 (bv b0)).holds w) (hr1 : (rd v1 1 b1.length c1 (bv b1)).holds w) : Calls Tryd.prog 9 #[v0, v1, .int .i64 (n : Int)] w fun e w' => e = .returned (.bool true) ∧ Mem w [] w' [] := by
  have hM : Mem w [] w [rd v0 1 b0.length c0 (bv b0), rd v1 1 b1.length c1 (bv b1), glb 0] := Mem.startR w (fun g hg => by
    simp only [List.mem_cons, List.not_mem_nil, or_false] at hg
    rcases hg with rfl | rfl | rfl
    · exact ⟨hr0, rfl⟩
    · exact ⟨hr1, rfl⟩
    · exact ⟨hG, rfl⟩)
  refine f_enter 42 Tryd.func9 rfl rfl rfl ?_
  intro a hE
  replace hE : Env a 42 [(0, _), (1, _), (2, _)] := hE
  refine wp_seq_k (fun K1 hK1 => ?_)
  refine wp_plain [true] rfl rfl ?_
  refine s_assign hE rfl rfl ?_; clear hE a; intro a hE
  refine q_nil ?_
  refine hK1 _ _ ?_
  refine wp_seq_k (fun K2 hK2 => ?_)
  refine wp_plain [true, false, true, false, true, true] rfl rfl ?_
  refine s_move hE rfl rfl ?_; clear hE a; intro a hE
  refine s_call hE rfl Tryd.call18 (cut_c b0 v0 c0 _ (hM.get 0 rfl)) rfl ?_
  rintro e w1 ⟨vK, cK, rfl, hvb, hrB, hN⟩
  refine ⟨_, rfl, trivial, ?_⟩; clear hE a; intro a hE
  replace hM : Mem _ _ w1 [_, _, _] := hM.call0 hN trivial; clear hN
  replace hM := hM.addPart 0 rfl hrB hvb; clear hrB hvb
  have hlK : (b0.take 1000).length ≤ 1000 := by simp; omega
  generalize b0.take 1000 = BK at hM hlK
  refine s_move hE rfl rfl ?_; clear hE a; intro a hE
  refine s_call hE rfl Tryd.call18 (cut_c b1 v1 c1 _ (hM.get 2 rfl)) rfl ?_
  rintro e w2 ⟨vM, cM, rfl, hvb, hrB, hN⟩
  refine ⟨_, rfl, trivial, ?_⟩; clear hE a; intro a hE
  replace hM : Mem _ _ w2 [_, _, _, _] := hM.call0 hN trivial; clear hN
  replace hM := hM.addPart 2 rfl hrB hvb; clear hrB hvb
  have hlM : (b1.take 1000).length ≤ 1000 := by simp; omega
  generalize b1.take 1000 = BM at hM hlM
  refine s_assign hE rfl rfl ?_; clear hE a; intro a hE
  refine s_assign hE rfl rfl ?_; clear hE a; intro a hE
  refine q_nil ?_
  replace hE : Env a 42 [(0, _), (1, _), (2, _), (6, _)] := hE.sel [0, 1, 2, 6] rfl
  refine hK2 _ _ ?_
  refine wp_seq_k (fun K3 hK3 => ?_)
  refine wp_plain [true, true, true, false, true, true, true, true, true] rfl rfl ?_
  refine s_move hE rfl rfl ?_; clear hE a; intro a hE
  refine s_move hE rfl rfl ?_; clear hE a; intro a hE
  refine s_move hE rfl rfl ?_; clear hE a; intro a hE
  refine s_call hE rfl Tryd.call22 (stretch_c vK vM BK BM cK cM n _ (hM.get 4 rfl) (hM.get 1 rfl) (hM.get 0 rfl) (by omega) (by omega) hn) rfl ?_
  rintro e w3 ⟨vx, rfl, hN⟩
  refine ⟨_, rfl, trivial, ?_⟩; clear hE a; intro a hE
  replace hM : Mem _ _ w3 [_, _, _, _, _, _] := hM.call0 hN ⟨rfl, trivial⟩; clear hN
  replace hM := hM.ownEq (m' := (strW BK BM n).length) (cs' := bv (strW BK BM n)) (by rw [strW_length]) rfl
  refine s_move hE rfl rfl ?_; clear hE a; intro a hE
  refine s_extract hE rfl rfl rfl ?_; clear hE a; intro a hE
  refine s_extract hE rfl rfl rfl ?_; clear hE a; intro a hE
  refine s_assign hE rfl rfl ?_; clear hE a; intro a hE
  refine s_assign hE rfl rfl ?_; clear hE a; intro a hE
  refine q_nil ?_
  replace hE : Env a 42 [(0, _), (1, _), (2, _), (6, _), (7, _), (8, _)] := hE.sel [0, 1, 2, 6, 7, 8] rfl
  refine hK3 _ _ ?_
  refine wp_seq_k (fun K4 hK4 => ?_)
  refine wp_plain [true, true, true, false, true, true, true, true, true] rfl rfl ?_
  refine s_move hE rfl rfl ?_; clear hE a; intro a hE
  refine s_move hE rfl rfl ?_; clear hE a; intro a hE
  refine s_move hE rfl rfl ?_; clear hE a; intro a hE
  refine s_call hE rfl Tryd.call26 (rstretch_c vK vM BK BM cK cM n _ (hM.get 2 rfl) (hM.get 1 rfl) (by omega) (by omega) hn) rfl ?_
  rintro e w4 ⟨vy, rfl, hN⟩
  refine ⟨_, rfl, trivial, ?_⟩; clear hE a; intro a hE
  replace hM : Mem _ _ w4 [_, _, _, _, _, _, _] := hM.call0 hN ⟨rfl, trivial⟩; clear hN
  replace hM := hM.ownEq (m' := (strW BK BM n).length) (cs' := bv (strW BK BM n)) (by rw [strW_length]) rfl
  refine s_move hE rfl rfl ?_; clear hE a; intro a hE
  refine s_extract hE rfl rfl rfl ?_; clear hE a; intro a hE
  refine s_extract hE rfl rfl rfl ?_; clear hE a; intro a hE
  refine s_assign hE rfl rfl ?_; clear hE a; intro a hE
  refine s_assign hE rfl rfl ?_; clear hE a; intro a hE
  refine q_nil ?_
  replace hE : Env a 42 [(0, _), (1, _), (2, _), (6, _), (7, _), (8, _), (9, _), (10, _)] := hE.sel [0, 1, 2, 6, 7, 8, 9, 10] rfl
  refine hK4 _ _ ?_
  refine wp_seq_k (fun K5 hK5 => ?_)
  refine wp_plain [true, true, true, true, true, true, true, true, true, true, true, false, true, true] rfl rfl ?_
  refine s_move hE rfl rfl ?_; clear hE a; intro a hE
  obtain ⟨cs30, hs30⟩ := own_rd (hM.get 1 rfl)
  refine s_toStr hE rfl Tryd.underlying26 Tryd.underlying5 Tryd.underlying9 hs30 (by intro X h; cases h) rfl ?_; clear hE a; intro a hE
  refine s_move hE rfl rfl ?_; clear hE a; intro a hE
  obtain ⟨cs32, hs32⟩ := own_rd (hM.get 0 rfl)
  refine s_toStr hE rfl Tryd.underlying26 Tryd.underlying5 Tryd.underlying9 hs32 (by intro X h; cases h) rfl ?_; clear hE a; intro a hE
  refine s_bin hE rfl rfl bins_str.1 rfl ?_; clear hE a; intro a hE
  refine s_move hE rfl rfl ?_; clear hE a; intro a hE
  replace hE := hE.cast 34 rfl (show _ = Value.bool true from (congrArg Value.bool (by simp)))
  refine g_yes hE rfl rfl ?_
  refine s_move hE rfl rfl ?_; clear hE a; intro a hE
  refine g_yes hE rfl rfl ?_
  refine s_move hE rfl rfl ?_; clear hE a; intro a hE
  refine g_yes hE rfl rfl ?_
  refine s_bin hE rfl rfl bin_eql rfl ?_; clear hE a; intro a hE
  refine s_pickt hE rfl rfl rfl ?_; clear hE a; intro a hE
  refine s_move hE rfl rfl ?_; clear hE a; intro a hE
  replace hE := hE.cast 39 rfl (show _ = Value.bool true from (congrArg Value.bool (by simp)))
  refine g_yes hE rfl rfl ?_
  refine s_call hE rfl Tryd.call17 (works_c _ (hM.get 6 rfl)) rfl ?_
  rintro e w5 ⟨rfl, hN⟩
  refine ⟨_, rfl, trivial, ?_⟩; clear hE a; intro a hE
  replace hM : Mem _ _ w5 [_, _, _, _, _, _, _] := hM.call0 hN trivial; clear hN
  refine s_pickt hE rfl rfl rfl ?_; clear hE a; intro a hE
  refine s_assign hE rfl rfl ?_; clear hE a; intro a hE
  refine q_nil ?_
  replace hE : Env a 42 [(0, _), (1, _), (2, _), (6, _)] := hE.sel [0, 1, 2, 6] rfl
  refine hK5 _ _ ?_
  refine wp_ret ?_
  refine f_ret1 hE rfl rfl ?_
  exact ⟨rfl, hM.nil⟩
theorem hmacStretch_bad (v0 v1 : Value) (b0 b1 : List UInt8) (c0 c1 : Nat) (z : Int) (hz : z < 0 ∨ 8160 < z) (w : World) (hG : (glb 0).holds w) (hr0 : (rd v0 1 b0.length c0 (bv b0)).holds w) (hr1 : (rd v1 1 b1.length c1 (bv b1)).holds w) : Calls Tryd.prog 9 #[v0, v1, .int .i64 z] w fun e w' => e = .returned (.bool true) ∧ Mem w [] w' [] := by
  have hM : Mem w [] w [rd v0 1 b0.length c0 (bv b0), rd v1 1 b1.length c1 (bv b1), glb 0] := Mem.startR w (fun g hg => by
    simp only [List.mem_cons, List.not_mem_nil, or_false] at hg
    rcases hg with rfl | rfl | rfl
    · exact ⟨hr0, rfl⟩
    · exact ⟨hr1, rfl⟩
    · exact ⟨hG, rfl⟩)
  refine f_enter 42 Tryd.func9 rfl rfl rfl ?_
  intro a hE
  replace hE : Env a 42 [(0, _), (1, _), (2, _)] := hE
  refine wp_seq_k (fun K1 hK1 => ?_)
  refine wp_plain [true] rfl rfl ?_
  refine s_assign hE rfl rfl ?_; clear hE a; intro a hE
  refine q_nil ?_
  refine hK1 _ _ ?_
  refine wp_seq_k (fun K2 hK2 => ?_)
  refine wp_plain [true, false, true, false, true, true] rfl rfl ?_
  refine s_move hE rfl rfl ?_; clear hE a; intro a hE
  refine s_call hE rfl Tryd.call18 (cut_c b0 v0 c0 _ (hM.get 0 rfl)) rfl ?_
  rintro e w1 ⟨vK, cK, rfl, hvb, hrB, hN⟩
  refine ⟨_, rfl, trivial, ?_⟩; clear hE a; intro a hE
  replace hM : Mem _ _ w1 [_, _, _] := hM.call0 hN trivial; clear hN
  replace hM := hM.addPart 0 rfl hrB hvb; clear hrB hvb
  have hlK : (b0.take 1000).length ≤ 1000 := by simp; omega
  generalize b0.take 1000 = BK at hM hlK
  refine s_move hE rfl rfl ?_; clear hE a; intro a hE
  refine s_call hE rfl Tryd.call18 (cut_c b1 v1 c1 _ (hM.get 2 rfl)) rfl ?_
  rintro e w2 ⟨vM, cM, rfl, hvb, hrB, hN⟩
  refine ⟨_, rfl, trivial, ?_⟩; clear hE a; intro a hE
  replace hM : Mem _ _ w2 [_, _, _, _] := hM.call0 hN trivial; clear hN
  replace hM := hM.addPart 2 rfl hrB hvb; clear hrB hvb
  have hlM : (b1.take 1000).length ≤ 1000 := by simp; omega
  generalize b1.take 1000 = BM at hM hlM
  refine s_assign hE rfl rfl ?_; clear hE a; intro a hE
  refine s_assign hE rfl rfl ?_; clear hE a; intro a hE
  refine q_nil ?_
  replace hE : Env a 42 [(0, _), (1, _), (2, _), (6, _)] := hE.sel [0, 1, 2, 6] rfl
  refine hK2 _ _ ?_
  refine wp_seq_k (fun K3 hK3 => ?_)
  refine wp_plain [true, true, true, false, true, true, true, true, true] rfl rfl ?_
  refine s_move hE rfl rfl ?_; clear hE a; intro a hE
  refine s_move hE rfl rfl ?_; clear hE a; intro a hE
  refine s_move hE rfl rfl ?_; clear hE a; intro a hE
  refine s_call hE rfl Tryd.call22 (stretch_bad _ _ z _ hz) rfl ?_
  rintro e w3 ⟨rfl, hN⟩
  refine ⟨_, rfl, trivial, ?_⟩; clear hE a; intro a hE
  replace hM : Mem _ _ w3 [_, _, _, _, _] := hM.call0 hN trivial; clear hN
  replace hM := hM.addNil 1
  replace hM := hM.ownEq (m' := ([] : List UInt8).length) (cs' := bv []) rfl rfl
  refine s_move hE rfl rfl ?_; clear hE a; intro a hE
  refine s_extract hE rfl rfl rfl ?_; clear hE a; intro a hE
  refine s_extract hE rfl rfl rfl ?_; clear hE a; intro a hE
  refine s_assign hE rfl rfl ?_; clear hE a; intro a hE
  refine s_assign hE rfl rfl ?_; clear hE a; intro a hE
  refine q_nil ?_
  replace hE : Env a 42 [(0, _), (1, _), (2, _), (6, _), (7, _), (8, _)] := hE.sel [0, 1, 2, 6, 7, 8] rfl
  refine hK3 _ _ ?_
  refine wp_seq_k (fun K4 hK4 => ?_)
  refine wp_plain [true, true, true, false, true, true, true, true, true] rfl rfl ?_
  refine s_move hE rfl rfl ?_; clear hE a; intro a hE
  refine s_move hE rfl rfl ?_; clear hE a; intro a hE
  refine s_move hE rfl rfl ?_; clear hE a; intro a hE
  refine s_call hE rfl Tryd.call26 (rstretch_bad _ _ z _ hz) rfl ?_
  rintro e w4 ⟨rfl, hN⟩
  refine ⟨_, rfl, trivial, ?_⟩; clear hE a; intro a hE
  replace hM : Mem _ _ w4 [_, _, _, _, _, _] := hM.call0 hN trivial; clear hN
  replace hM := hM.addNil 1
  replace hM := hM.ownEq (m' := ([] : List UInt8).length) (cs' := bv []) rfl rfl
  refine s_move hE rfl rfl ?_; clear hE a; intro a hE
  refine s_extract hE rfl rfl rfl ?_; clear hE a; intro a hE
  refine s_extract hE rfl rfl rfl ?_; clear hE a; intro a hE
  refine s_assign hE rfl rfl ?_; clear hE a; intro a hE
  refine s_assign hE rfl rfl ?_; clear hE a; intro a hE
  refine q_nil ?_
  replace hE : Env a 42 [(0, _), (1, _), (2, _), (6, _), (7, _), (8, _), (9, _), (10, _)] := hE.sel [0, 1, 2, 6, 7, 8, 9, 10] rfl
  refine hK4 _ _ ?_
  refine wp_seq_k (fun K5 hK5 => ?_)
  refine wp_plain [true, true, true, true, true, true, true, true, true, true, true, false, true, true] rfl rfl ?_
  refine s_move hE rfl rfl ?_; clear hE a; intro a hE
  obtain ⟨cs30, hs30⟩ := own_rd (hM.get 1 rfl)
  refine s_toStr hE rfl Tryd.underlying26 Tryd.underlying5 Tryd.underlying9 hs30 (by intro X h; cases h) rfl ?_; clear hE a; intro a hE
  refine s_move hE rfl rfl ?_; clear hE a; intro a hE
  obtain ⟨cs32, hs32⟩ := own_rd (hM.get 0 rfl)
  refine s_toStr hE rfl Tryd.underlying26 Tryd.underlying5 Tryd.underlying9 hs32 (by intro X h; cases h) rfl ?_; clear hE a; intro a hE
  refine s_bin hE rfl rfl bins_str.1 rfl ?_; clear hE a; intro a hE
  refine s_move hE rfl rfl ?_; clear hE a; intro a hE
  replace hE := hE.cast 34 rfl (show _ = Value.bool true from (congrArg Value.bool (by simp)))
  refine g_yes hE rfl rfl ?_
  refine s_move hE rfl rfl ?_; clear hE a; intro a hE
  refine g_yes hE rfl rfl ?_
  refine s_move hE rfl rfl ?_; clear hE a; intro a hE
  refine g_yes hE rfl rfl ?_
  refine s_bin hE rfl rfl bin_eql rfl ?_; clear hE a; intro a hE
  refine s_pickt hE rfl rfl rfl ?_; clear hE a; intro a hE
  refine s_move hE rfl rfl ?_; clear hE a; intro a hE
  replace hE := hE.cast 39 rfl (show _ = Value.bool true from (congrArg Value.bool (by simp)))
  refine g_yes hE rfl rfl ?_
  refine s_call hE rfl Tryd.call17 (works_c _ (hM.get 6 rfl)) rfl ?_
  rintro e w5 ⟨rfl, hN⟩
  refine ⟨_, rfl, trivial, ?_⟩; clear hE a; intro a hE
  replace hM : Mem _ _ w5 [_, _, _, _, _, _, _] := hM.call0 hN trivial; clear hN
  refine s_pickt hE rfl rfl rfl ?_; clear hE a; intro a hE
  refine s_assign hE rfl rfl ?_; clear hE a; intro a hE
  refine q_nil ?_
  replace hE : Env a 42 [(0, _), (1, _), (2, _), (6, _)] := hE.sel [0, 1, 2, 6] rfl
  refine hK5 _ _ ?_
  refine wp_ret ?_
  refine f_ret1 hE rfl rfl ?_
  exact ⟨rfl, hM.nil⟩
theorem hmacStretch_c (v0 v1 : Value) (b0 b1 : List UInt8) (c0 c1 : Nat) (z : Int) (w : World) (hG : (glb 0).holds w) (hr0 : (rd v0 1 b0.length c0 (bv b0)).holds w) (hr1 : (rd v1 1 b1.length c1 (bv b1)).holds w) : Calls Tryd.prog 9 #[v0, v1, .int .i64 z] w fun e w' => e = .returned (.bool true) ∧ Mem w [] w' [] := by
  by_cases hz : z < 0 ∨ 8160 < z
  · exact hmacStretch_bad v0 v1 b0 b1 c0 c1 z hz w hG hr0 hr1
  · obtain ⟨n, rfl⟩ := Int.eq_ofNat_of_zero_le (show 0 ≤ z by omega)
    exact hmacStretch_ok v0 v1 b0 b1 c0 c1 n (by omega) w hG hr0 hr1
set_option maxRecDepth 100000 in
theorem hmacStretch_lifted (os : Os) (started : os.Started) (H : Type) (enc : TypeId × Value → H) :
    ReturnsInHanded {} Tryd.checked os 9 .any (fun w args => (Rows.hmacStretchSpec.pre enc Tryd.prog Tryd.f9 [] false w args ∧ laidMetH Tryd.prog Rows.hmacStretchRow.laid w) ∧ sizedMet enc Tryd.prog Tryd.f9 (OpenSpec.ofChange Rows.hmacStretchSpec) false w args) (Rows.hmacStretchSpec.post enc Tryd.prog Tryd.f9 false true false false) := by
  refine law_liftedL (C := Tryd.checked) (fn := Tryd.f9) (l := Rows.hmacStretchRow.laid) (by kernel_rfl) started (by kernel_rfl) Tryd.func9 rfl (fun ds hl => ?_) rfl Tryd.underlying4 (by kernel_rfl) (of_decide_eq_true (by kernel_rfl)) (by kernel_rfl)
    (ChangeSpec.witness_shaped (enc := enc) (C := Tryd.checked) (os := os) (X := fun w _ => laidMetH Tryd.prog Rows.hmacStretchRow.laid w) false (World.laidAll Tryd.prog os Rows.hmacStretchRow.laid) #[.slice none 0 0, .slice none 0 0, .int .i64 0] 8 (World.laidAll_os _ _ _) (World.shaped_of_ZipB (by kernel_rfl) (by kernel_rfl)) (by kernel_rfl) (by kernel_rfl) (by kernel_rfl) (by rw [MakeChecks.laidMetH_plain _ _ _ (by kernel_rfl)]; exact laidMet_laidAll _ (by kernel_rfl) (by kernel_rfl))) ?_
  · rw [Tryd.params9] at hl
    match ds, hl with
    | [_, _, _], _ => rfl
  · intro W base args ds ps hval hA hw hL
    have hG := glb_of_laid (P := Tryd.prog) (g := 0) (t := 91) (e := 48) (by kernel_rfl) (by kernel_rfl) Tryd.underlying91 Tryd.underlying48 (by kernel_rfl) (by kernel_rfl) (by kernel_rfl) (show laidMet Tryd.prog (_ :: _) W from hL)
    rw [Tryd.params9] at hA hval hw
    obtain ⟨v0, vs0, d0, ds0, p0, q0, hargs, rfl, rfl, h0, r0⟩ := trodAll_cons hA
    obtain ⟨v1, vs1, d1, ds1, p1, q1, rfl, rfl, rfl, h1, r1⟩ := trodAll_cons r0
    obtain ⟨v2, vs2, d2, ds2, p2, q2, rfl, rfl, rfl, h2, r2⟩ := trodAll_cons r1
    obtain ⟨rfl, rfl, rfl⟩ := trodAll_nil r2
    obtain rfl : args = #[v0, v1, v2] := by cases args; simp_all
    obtain ⟨bs0, c0, hr0, hb0⟩ := arg_bytes Tryd.underlying26 Tryd.underlying5 (by kernel_rfl) (by kernel_rfl) (hval 0 26 v0 rfl rfl) h0 (fun m hm => hw m (by simp only [DataW.weightsEach, List.mem_append]; exact .inl hm))
    obtain ⟨bs1, c1, hr1, hb1⟩ := arg_bytes Tryd.underlying26 Tryd.underlying5 (by kernel_rfl) (by kernel_rfl) (hval 1 26 v1 rfl rfl) h1 (fun m hm => hw m (by simp only [DataW.weightsEach, List.mem_append]; exact .inr (.inl hm)))
    obtain ⟨z2, rfl, hz2, hy2⟩ := arg_int Tryd.underlying3 (hval 2 3 v2 rfl rfl) h2 (fun m hm => hw m (by simp only [DataW.weightsEach, List.mem_append]; exact .inr (.inr (.inl hm))))
    exact hmacStretch_c v0 v1 bs0 bs1 c0 c1 z2 W hG hr0 hr1

/-- The row's statement. -/
theorem hmacStretch_row : Rows.HmacStretchSaid :=
  OpenClaim.holds_of_wide 9 Tryd.f9 rfl rfl rfl rfl rfl rfl rfl ⟨rfl, rfl, rfl, rfl, rfl⟩ rfl rfl rfl rfl rfl (by kernel_rfl) Tryd.func9 (by kernel_rfl)
    (of_decide_eq_true (by kernel_rfl)) (by unfold Func.isWrapper; first | (rw [if_pos (by decide +kernel)]; kernel_rfl) | (rw [if_neg (by decide +kernel)]; exact ⟨rfl, rfl⟩))
    (fun os started H enc _ => hmacStretch_lifted os started H enc)

/-- The statement: the row, its listed variable tied to the program's text. -/
theorem hmacStretch_holds : Rows.HmacStretchCardSaid :=
  Claim7.holds_tied_plain_at .later [] [.data] true (true, "84ae260bd57be45edc78bdc8f25baf9a88e7d5216b5328ce6ba213109669f402") true
    hmacStretch_row (fun _ h => by cases h) (by kernel_rfl) (fun _ h => by cases h) hmacStretch_row_tie rfl ⟨rfl, rfl⟩ (by kernel_rfl) rfl
    (fun f fn hf hfn => by
      obtain rfl : f = 9 := Option.some.inj ((show Tryd.prog.funcNamed "casemate/casematelaw04.HmacStretch" = some 9 by kernel_rfl).symm.trans hf) |>.symm
      obtain rfl : fn = Tryd.f9 := (Option.some.inj (Tryd.func9.symm.trans hfn)).symm
      exact ⟨by kernel_rfl, fun j t ht => by
        rw [Tryd.params9] at ht
        have h : t ∈ [26, 26, 3] := by
          rcases j with _ | _ | _ | j
          · simp at ht; simp [ht]
          · simp at ht; simp [ht]
          · simp at ht; simp [ht]
          · simp at ht
        simp only [List.mem_cons, List.not_mem_nil, or_false] at h
        rcases h with rfl | rfl | rfl
        · exact (show Tryd.prog.wantsStandIn 26 = false by kernel_rfl)
        · exact (show Tryd.prog.wantsStandIn 26 = false by kernel_rfl)
        · exact (show Tryd.prog.wantsStandIn 3 = false by kernel_rfl)⟩)
    (by kernel_rfl)
#print axioms hmacStretch_holds
end Go.Proofs.YtcmikkfekmmheaaDoor
