/- DeriveKnown of casematelaw09 returns true. No condition. -/
import Derived.Test.YthagednepehliaaDoorLd
import Derived.Test.YthagednepehliaaDoorTie
import Derived.Test.YthagednepehliaaDoorCards
namespace Go.Proofs.YthagednepehliaaDoor
open Go Go.Kx
open Go.ChangeShapes Go.WideShapes Go.ChangeAt Go.RowKit
theorem kl48 : ∀ {k : Nat} {x0 : List UInt8} {x1 : List UInt8} {x2 : List UInt8} (hx0 : x0.length = 32) (hx1 : x1.length = 32) (hx2 : x2.length = 32), KL Tryd.prog (k + 3) 48 ([bv x0, bv x1, bv x2].flatten) := fun {k} {x0} {x1} {x2} hx0 hx1 hx2 => KL.struct [32, 32, 32] Tryd.underlying48 (by kernel_rfl) (by kernel_rfl) (by kernel_rfl) (by simp [*]) [46, 46, 46] (by kernel_rfl) ⟨KL.arr8 Tryd.underlying46 Tryd.underlying5 (by kernel_rfl) (by kernel_rfl) hx0, KL.arr8 Tryd.underlying46 Tryd.underlying5 (by kernel_rfl) (by kernel_rfl) hx1, KL.arr8 Tryd.underlying46 Tryd.underlying5 (by kernel_rfl) (by kernel_rfl) hx2, trivial⟩
theorem eqk48 : ∀ {cs ds : List Value} {b : Bool} {k k' : Nat}, KL Tryd.prog k 48 cs → KL Tryd.prog k' 48 ds → (b = true ↔ cs = ds) → Bin Tryd.prog .eql 48 (.agg cs.toArray) (.agg ds.toArray) (.bool b) ∧ Bin Tryd.prog .neq 48 (.agg cs.toArray) (.agg ds.toArray) (.bool (!b)) := fun h1 h2 hb => bins_key (m := 3) (by kernel_rfl) rfl (by kernel_rfl) (by rw [Tryd.underlying48]) h1 h2 hb
theorem deriveKnown_c (w : World) (hG : (glb 0).holds w) : Calls Tryd.prog 8 #[] w fun e w' => e = .returned (.bool true) ∧ Mem w [] w' [] := by
  have hM := Mem.startR1 hG rfl
  refine f_enter 37 Tryd.func8 rfl rfl rfl ?_
  intro a hE
  replace hE : Env a 37 [] := hE
  refine wp_seq_k (fun K1 hK1 => ?_)
  refine wp_plain [true] rfl rfl ?_
  refine s_assign hE rfl rfl ?_; clear hE a; intro a hE
  refine q_nil ?_
  refine hK1 _ _ ?_
  refine wp_seq_k (fun K2 hK2 => ?_)
  refine wp_plain [true, false, false] rfl rfl ?_
  refine s_build (r := .agg (bv [5, 0, 0, 0, 0, 0, 0, 0, 0, 0, 0, 0, 0, 0, 0, 0, 0, 0, 0, 0, 0, 0, 0, 0, 0, 0, 0, 0, 0, 0, 0, 6]).toArray) _ hE rfl (fun w => by kernel_rfl) rfl ?_; clear hE a; intro a hE
  refine s_alloc [32] hE hM zero46 rfl rfl ?_; clear hE a; intro a b1 w1 hE hM'
  clear hM; have hM := hM'; clear hM'
  refine s_storeSeg 0 hE rfl rfl hM rfl sz46 (by simp) (bv_one _) rfl (by simp) rfl (by intro X h; cases h) ?_; intro w2 hM'; clear hM; have hM := hM'; clear hM'
  simp only [List.set_cons_zero, List.set_cons_succ] at hM
  refine q_nil ?_
  replace hE : Env a 37 [(0, _), (1, _)] := hE.sel [0, 1] rfl
  refine hK2 _ _ ?_
  refine wp_seq_k (fun K3 hK3 => ?_)
  refine wp_plain [true, false, false, false] rfl rfl ?_
  refine s_loadN hE rfl (hM.get 0 rfl) row46 rfl (by intro X h; cases h) rfl ?_; clear hE a; intro a hE
  refine s_call hE rfl Tryd.call25 (setof_c [5, 0, 0, 0, 0, 0, 0, 0, 0, 0, 0, 0, 0, 0, 0, 0, 0, 0, 0, 0, 0, 0, 0, 0, 0, 0, 0, 0, 0, 0, 0, 6] _ (hM.get 1 rfl) rfl) rfl ?_
  rintro e w3 ⟨rfl, hN⟩
  refine ⟨_, rfl, trivial, ?_⟩; clear hE a; intro a hE
  replace hM : Mem _ _ w3 [_, _] := hM.call0 hN trivial; clear hN
  refine s_alloc [32, 32, 32] hE hM zero48 rfl rfl ?_; clear hE a; intro a b2 w4 hE hM'
  clear hM; have hM := hM'; clear hM'
  refine s_storeSegs 0 3 (vss := [bv (subW [5, 0, 0, 0, 0, 0, 0, 0, 0, 0, 0, 0, 0, 0, 0, 0, 0, 0, 0, 0, 0, 0, 0, 0, 0, 0, 0, 0, 0, 0, 0, 6] [116, 114, 101, 101]), bv (subW [5, 0, 0, 0, 0, 0, 0, 0, 0, 0, 0, 0, 0, 0, 0, 0, 0, 0, 0, 0, 0, 0, 0, 0, 0, 0, 0, 0, 0, 0, 0, 6] [114, 111, 111, 116]), bv (subW [5, 0, 0, 0, 0, 0, 0, 0, 0, 0, 0, 0, 0, 0, 0, 0, 0, 0, 0, 0, 0, 0, 0, 0, 0, 0, 0, 0, 0, 0, 0, 6] [104, 101, 97, 100])]) hE rfl rfl hM rfl sz48 (by simp) (by decide) rfl (by intro v hv; simp at hv; rcases hv with hv | hv | hv <;> exact bv_one _ v hv) rfl (by intro X h; cases h) ?_; intro w5 hM'; clear hM; have hM := hM'; clear hM'
  simp only [List.take_zero, List.take_succ_cons, List.drop_zero, List.drop_succ_cons, List.take_nil, List.drop_nil, List.nil_append, List.append_nil, List.cons_append] at hM
  refine q_nil ?_
  replace hE : Env a 37 [(0, _), (1, _), (2, _)] := hE.sel [0, 1, 2] rfl
  refine hK3 _ _ ?_
  refine wp_seq_k (fun K4 hK4 => ?_)
  refine wp_plain [true, false, true, true, true, false, false, false, false] rfl rfl ?_
  refine s_loadN hE rfl (hM.get 1 rfl) row46 rfl (by intro X h; cases h) rfl ?_; clear hE a; intro a hE
  refine s_call hE rfl Tryd.call26 (pair_c [5, 0, 0, 0, 0, 0, 0, 0, 0, 0, 0, 0, 0, 0, 0, 0, 0, 0, 0, 0, 0, 0, 0, 0, 0, 0, 0, 0, 0, 0, 0, 6] _ (hM.get 2 rfl) rfl) rfl ?_
  rintro e w6 ⟨rfl, hN⟩
  refine ⟨_, rfl, trivial, ?_⟩; clear hE a; intro a hE
  replace hM : Mem _ _ w6 [_, _, _] := hM.call0 hN trivial; clear hN
  refine s_move hE rfl rfl ?_; clear hE a; intro a hE
  refine s_extract hE rfl rfl rfl ?_; clear hE a; intro a hE
  refine s_extract hE rfl rfl rfl ?_; clear hE a; intro a hE
  refine s_alloc [32] hE hM zero46 rfl rfl ?_; clear hE a; intro a b3 w7 hE hM'
  clear hM; have hM := hM'; clear hM'
  refine s_alloc [32] hE hM zero46 rfl rfl ?_; clear hE a; intro a b4 w8 hE hM'
  clear hM; have hM := hM'; clear hM'
  replace hM : Mem _ _ w8 [_, _, _, _, _] := hM.pick [1, 0, 2, 3, 4] rfl
  refine s_storeSeg 0 hE rfl rfl hM rfl sz46 (by simp) (bv_one _) rfl (by simp) rfl (by intro X h; cases h) ?_; intro w9 hM'; clear hM; have hM := hM'; clear hM'
  simp only [List.set_cons_zero, List.set_cons_succ] at hM
  replace hM : Mem _ _ w9 [_, _, _, _, _] := hM.pick [1, 0, 2, 3, 4] rfl
  refine s_storeSeg 0 hE rfl rfl hM rfl sz46 (by simp) (bv_one _) rfl (by simp) rfl (by intro X h; cases h) ?_; intro w10 hM'; clear hM; have hM := hM'; clear hM'
  simp only [List.set_cons_zero, List.set_cons_succ] at hM
  refine q_nil ?_
  replace hE : Env a 37 [(0, _), (1, _), (2, _), (3, _), (4, _)] := hE.sel [0, 1, 2, 3, 4] rfl
  refine hK4 _ _ ?_
  refine wp_seq_k (fun K5 hK5 => ?_)
  refine wp_drawnM hM (by kernel_rfl) (fun _ => False) [(0, false), (1, true), (2, true), (3, true), (5, true), (7, true), (4, false), (6, false), (8, false), (9, true), (10, true), (11, true), (12, true), (13, true), (14, true), (15, false), (16, true), (17, true), (18, true), (19, true), (20, true), (21, false), (22, true), (23, true), (24, true)] [(0, [(1, 0), (2, 1), (3, 1), (5, 1), (7, 1), (4, 1), (6, 1), (8, 1), (9, 8), (10, 9), (11, 1), (12, 8), (13, 12), (14, 12), (15, 12), (16, 12), (17, 16), (18, 17), (19, 18), (20, 18), (21, 18), (22, 18), (23, 18), (24, 0)]), (4, [(6, 4), (8, 6), (9, 4), (10, 9), (11, 10), (12, 8), (13, 12), (14, 12), (15, 12), (16, 12), (17, 16), (18, 17), (19, 18), (20, 18), (21, 18), (22, 18), (23, 18), (24, 4)]), (6, [(8, 6), (9, 6), (10, 9), (11, 10), (12, 8), (13, 12), (14, 12), (15, 12), (16, 12), (17, 16), (18, 17), (19, 18), (20, 18), (21, 18), (22, 18), (23, 18), (24, 6)]), (8, [(9, 8), (10, 9), (11, 10), (12, 8), (13, 12), (14, 12), (15, 12), (16, 12), (17, 16), (18, 17), (19, 18), (20, 18), (21, 18), (22, 18), (23, 18), (24, 8)]), (15, [(16, 15), (17, 16), (18, 15), (19, 18), (20, 18), (21, 18), (22, 18), (23, 18), (24, 15)]), (21, [(22, 21), (23, 22), (24, 21)])] (by kernel_rfl) rfl ?_
  intro w11 hM' hww11; clear hM; have hM := hM'; clear hM'
  refine s_call hE rfl Tryd.call27 (awake9_c _ (hM.get 4 rfl)) rfl ?_
  rintro e w12 ⟨rfl, hN⟩
  refine ⟨_, rfl, hN.sta0 _, ?_⟩; clear hE a; intro a hE
  replace hM : Mem _ _ w12 [_, _, _, _, _] := hM.call0 hN trivial; clear hN
  refine s_move hE rfl rfl ?_; clear hE a; intro a hE
  replace hE := hE.cast 14 rfl (show _ = Value.bool true from (congrArg Value.bool (by first | exact decide_eq_true rfl | rfl)))
  refine g_yes hE rfl rfl ?_
  refine s_loadN hE rfl (hM.get 2 rfl) row48 rfl (by intro X h; cases h; simp) rfl ?_; clear hE a; intro a hE
  replace hE := hE.cast 15 rfl (show _ = Value.agg ([bv (subW [5, 0, 0, 0, 0, 0, 0, 0, 0, 0, 0, 0, 0, 0, 0, 0, 0, 0, 0, 0, 0, 0, 0, 0, 0, 0, 0, 0, 0, 0, 0, 6] [116, 114, 101, 101]), bv (subW [5, 0, 0, 0, 0, 0, 0, 0, 0, 0, 0, 0, 0, 0, 0, 0, 0, 0, 0, 0, 0, 0, 0, 0, 0, 0, 0, 0, 0, 0, 0, 6] [114, 111, 111, 116]), bv (subW [5, 0, 0, 0, 0, 0, 0, 0, 0, 0, 0, 0, 0, 0, 0, 0, 0, 0, 0, 0, 0, 0, 0, 0, 0, 0, 0, 0, 0, 0, 0, 6] [104, 101, 97, 100])].flatten).toArray from by simp)
  refine g_yes hE rfl rfl ?_
  refine s_loadN hE rfl (hM.get 3 rfl) row46 rfl (by intro X h; cases h; simp) rfl ?_; clear hE a; intro a hE
  refine g_yes hE rfl rfl ?_
  refine s_loadN hE rfl (hM.get 3 rfl) row46 rfl (by intro X h; cases h; simp) rfl ?_; clear hE a; intro a hE
  refine g_yes hE rfl rfl ?_
  refine s_loadN hE rfl (hM.get 3 rfl) row46 rfl (by intro X h; cases h; simp) rfl ?_; clear hE a; intro a hE
  refine g_yes hE rfl rfl ?_
  refine s_call hE rfl Tryd.call28 ((by have h := sub_c [5, 0, 0, 0, 0, 0, 0, 0, 0, 0, 0, 0, 0, 0, 0, 0, 0, 0, 0, 0, 0, 0, 0, 0, 0, 0, 0, 0, 0, 0, 0, 6] (tx [116, 114, 101, 101]) w12 (hM.get 4 rfl) rfl (by decide); rw [tx_list] at h; exact h)) rfl ?_
  rintro e w13 ⟨rfl, hN⟩
  refine ⟨_, rfl, hN.sta0 _, ?_⟩; clear hE a; intro a hE
  replace hM : Mem _ _ w13 [_, _, _, _, _] := hM.call0 hN trivial; clear hN
  refine g_yes hE rfl rfl ?_
  refine s_call hE rfl Tryd.call28 ((by have h := sub_c [5, 0, 0, 0, 0, 0, 0, 0, 0, 0, 0, 0, 0, 0, 0, 0, 0, 0, 0, 0, 0, 0, 0, 0, 0, 0, 0, 0, 0, 0, 0, 6] (tx [114, 111, 111, 116]) w13 (hM.get 4 rfl) rfl (by decide); rw [tx_list] at h; exact h)) rfl ?_
  rintro e w14 ⟨rfl, hN⟩
  refine ⟨_, rfl, hN.sta0 _, ?_⟩; clear hE a; intro a hE
  replace hM : Mem _ _ w14 [_, _, _, _, _] := hM.call0 hN trivial; clear hN
  refine g_yes hE rfl rfl ?_
  refine s_call hE rfl Tryd.call28 ((by have h := sub_c [5, 0, 0, 0, 0, 0, 0, 0, 0, 0, 0, 0, 0, 0, 0, 0, 0, 0, 0, 0, 0, 0, 0, 0, 0, 0, 0, 0, 0, 0, 0, 6] (tx [104, 101, 97, 100]) w14 (hM.get 4 rfl) rfl (by decide); rw [tx_list] at h; exact h)) rfl ?_
  rintro e w15 ⟨rfl, hN⟩
  refine ⟨_, rfl, hN.sta0 _, ?_⟩; clear hE a; intro a hE
  replace hM : Mem _ _ w15 [_, _, _, _, _] := hM.call0 hN trivial; clear hN
  refine g_yes hE rfl rfl ?_
  refine s_buildS [bv (subW [5, 0, 0, 0, 0, 0, 0, 0, 0, 0, 0, 0, 0, 0, 0, 0, 0, 0, 0, 0, 0, 0, 0, 0, 0, 0, 0, 0, 0, 0, 0, 6] [116, 114, 101, 101]), bv (subW [5, 0, 0, 0, 0, 0, 0, 0, 0, 0, 0, 0, 0, 0, 0, 0, 0, 0, 0, 0, 0, 0, 0, 0, 0, 0, 0, 0, 0, 0, 0, 6] [114, 111, 111, 116]), bv (subW [5, 0, 0, 0, 0, 0, 0, 0, 0, 0, 0, 0, 0, 0, 0, 0, 0, 0, 0, 0, 0, 0, 0, 0, 0, 0, 0, 0, 0, 0, 0, 6] [104, 101, 97, 100])] hE rfl zero48 rfl fpl48 ⟨rfl, by simp, rfl, by simp, rfl, by simp, trivial⟩ rfl ?_; clear hE a; intro a hE
  refine g_yes hE rfl rfl ?_
  refine s_bin hE rfl rfl (eqk48 (b := true) (kl48 (k := 0) (by simp) (by simp) (by simp)) (kl48 (k := 0) (by simp) (by simp) (by simp)) ⟨fun _ => rfl, fun _ => rfl⟩).1 rfl ?_; clear hE a; intro a hE
  refine s_pickt hE rfl rfl rfl ?_; clear hE a; intro a hE
  refine s_move hE rfl rfl ?_; clear hE a; intro a hE
  replace hE := hE.cast 25 rfl (show _ = Value.bool true from (congrArg Value.bool (by first | exact decide_eq_true rfl | rfl)))
  refine g_yes hE rfl rfl ?_
  refine s_loadN hE rfl (hM.get 1 rfl) row46 rfl (by intro X h; cases h; simp) rfl ?_; clear hE a; intro a hE
  refine g_yes hE rfl rfl ?_
  refine s_loadN hE rfl (hM.get 3 rfl) row46 rfl (by intro X h; cases h; simp) rfl ?_; clear hE a; intro a hE
  refine g_yes hE rfl rfl ?_
  refine s_call hE rfl Tryd.call28 ((by have h := sub_c [5, 0, 0, 0, 0, 0, 0, 0, 0, 0, 0, 0, 0, 0, 0, 0, 0, 0, 0, 0, 0, 0, 0, 0, 0, 0, 0, 0, 0, 0, 0, 6] (tx [100, 97, 116, 97]) w15 (hM.get 4 rfl) rfl (by decide); rw [tx_list] at h; exact h)) rfl ?_
  rintro e w16 ⟨rfl, hN⟩
  refine ⟨_, rfl, hN.sta0 _, ?_⟩; clear hE a; intro a hE
  replace hM : Mem _ _ w16 [_, _, _, _, _] := hM.call0 hN trivial; clear hN
  refine g_yes hE rfl rfl ?_
  refine s_bin hE rfl rfl (eqa46 (by first | simp | assumption) (by first | simp | assumption)).1 rfl ?_; clear hE a; intro a hE
  refine s_pickt hE rfl rfl rfl ?_; clear hE a; intro a hE
  refine s_move hE rfl rfl ?_; clear hE a; intro a hE
  replace hE := hE.cast 31 rfl (show _ = Value.bool true from (congrArg Value.bool (by first | exact decide_eq_true rfl | rfl)))
  refine g_yes hE rfl rfl ?_
  refine s_loadN hE rfl (hM.get 0 rfl) row46 rfl (by intro X h; cases h; simp) rfl ?_; clear hE a; intro a hE
  refine g_yes hE rfl rfl ?_
  refine s_loadN hE rfl (hM.get 3 rfl) row46 rfl (by intro X h; cases h; simp) rfl ?_; clear hE a; intro a hE
  refine g_yes hE rfl rfl ?_
  refine s_call hE rfl Tryd.call28 ((by have h := sub_c [5, 0, 0, 0, 0, 0, 0, 0, 0, 0, 0, 0, 0, 0, 0, 0, 0, 0, 0, 0, 0, 0, 0, 0, 0, 0, 0, 0, 0, 0, 0, 6] (tx [116, 119, 101, 97, 107]) w16 (hM.get 4 rfl) rfl (by decide); rw [tx_list] at h; exact h)) rfl ?_
  rintro e w17 ⟨rfl, hN⟩
  refine ⟨_, rfl, hN.sta0 _, ?_⟩; clear hE a; intro a hE
  replace hM : Mem _ _ w17 [_, _, _, _, _] := hM.call0 hN trivial; clear hN
  refine g_yes hE rfl rfl ?_
  refine s_bin hE rfl rfl (eqa46 (by first | simp | assumption) (by first | simp | assumption)).1 rfl ?_; clear hE a; intro a hE
  refine s_pickt hE rfl rfl rfl ?_; clear hE a; intro a hE
  refine s_assign hE rfl rfl ?_; clear hE a; intro a hE
  refine q_nil ?_
  replace hE : Env a 37 [(0, _), (1, _), (2, _), (3, _), (4, _)] := hE.sel [0, 1, 2, 3, 4] rfl
  refine hK5 _ _ ?_
  refine wp_ret ?_
  refine f_ret1 hE rfl rfl ?_
  exact ⟨by simp, hM.nil⟩
set_option maxRecDepth 100000 in
theorem deriveKnown_lifted (os : Os) (started : os.Started) (H : Type) (enc : TypeId × Value → H) :
    ReturnsInHanded {} Tryd.checked os 8 .any (fun w args => (Rows.deriveKnownSpec.pre enc Tryd.prog Tryd.f8 [] false w args ∧ laidMetH Tryd.prog Rows.deriveKnownRow.laid w) ∧ sizedMet enc Tryd.prog Tryd.f8 (OpenSpec.ofChange Rows.deriveKnownSpec) false w args) (Rows.deriveKnownSpec.post enc Tryd.prog Tryd.f8 false true false false) := by
  refine law_liftedL (C := Tryd.checked) (fn := Tryd.f8) (l := Rows.deriveKnownRow.laid) (by kernel_rfl) started (by kernel_rfl) Tryd.func8 rfl (fun ds hl => ?_) rfl Tryd.underlying4 (by kernel_rfl) (of_decide_eq_true (by kernel_rfl)) (by kernel_rfl)
    (ChangeSpec.witness_shaped (enc := enc) (C := Tryd.checked) (os := os) (X := fun w _ => laidMetH Tryd.prog Rows.deriveKnownRow.laid w) false (World.laidAll Tryd.prog os Rows.deriveKnownRow.laid) #[] 8 (World.laidAll_os _ _ _) (World.shaped_of_ZipB (by kernel_rfl) (by kernel_rfl)) (by kernel_rfl) (by kernel_rfl) (by kernel_rfl) (by rw [MakeChecks.laidMetH_plain _ _ _ (by kernel_rfl)]; exact laidMet_laidAll _ (by kernel_rfl) (by kernel_rfl))) ?_
  · rw [Tryd.params8] at hl
    match ds, hl with
    | [], _ => rfl
  · intro W base args ds ps hval hA hw hL
    have hG := glb_of_laid (P := Tryd.prog) (g := 0) (t := 98) (e := 74) (by kernel_rfl) (by kernel_rfl) Tryd.underlying98 Tryd.underlying74 (by kernel_rfl) (by kernel_rfl) (by kernel_rfl) (show laidMet Tryd.prog (_ :: _) W from hL)
    rw [Tryd.params8] at hA hval hw
    obtain ⟨hargs, rfl, rfl⟩ := trodAll_nil hA
    obtain rfl : args = #[] := by cases args; simp_all
    exact deriveKnown_c W hG

/-- The row's statement. -/
theorem deriveKnown_row : Rows.DeriveKnownSaid :=
  OpenClaim.holds_of_wide 8 Tryd.f8 rfl rfl rfl rfl rfl rfl rfl ⟨rfl, rfl, rfl, rfl, rfl⟩ rfl rfl rfl rfl rfl (by kernel_rfl) Tryd.func8 (by kernel_rfl)
    (of_decide_eq_true (by kernel_rfl)) (by unfold Func.isWrapper; first | (rw [if_pos (by decide +kernel)]; kernel_rfl) | (rw [if_neg (by decide +kernel)]; exact ⟨rfl, rfl⟩))
    (fun os started H enc _ => deriveKnown_lifted os started H enc)

/-- The statement: the row, its listed variable tied to the program's text. -/
theorem deriveKnown_holds : Rows.DeriveKnownCardSaid :=
  Claim7.holds_tied_plain_at .later [] [.data] true (true, "6fc7720c1af2613af465590a04043e064699da455281c70e9b23793a063f4041") false
    deriveKnown_row (fun _ h => by cases h) (by kernel_rfl) (fun _ h => by cases h) deriveKnown_row_tie rfl ⟨rfl, rfl⟩ (by kernel_rfl) rfl
    (fun f fn hf hfn => by
      obtain rfl : f = 8 := Option.some.inj ((show Tryd.prog.funcNamed "casemate/casematelaw09.DeriveKnown" = some 8 by kernel_rfl).symm.trans hf) |>.symm
      obtain rfl : fn = Tryd.f8 := (Option.some.inj (Tryd.func8.symm.trans hfn)).symm
      exact ⟨by kernel_rfl, fun j t ht => by
        rw [Tryd.params8] at ht
        simp at ht⟩)
    (by kernel_rfl)
#print axioms deriveKnown_holds
end Go.Proofs.YthagednepehliaaDoor
