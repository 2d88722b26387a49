/- SlotsBoxes of casematelaw25 returns true for whatever header and passphrase. No condition. -/
import Derived.Test.YtniekapfoaiieaaDoorLq
import Derived.Test.YtniekapfoaiieaaDoorTie
import Derived.Test.YtniekapfoaiieaaDoorCards
set_option linter.unusedSimpArgs false
set_option linter.unusedVariables false
namespace Go.Proofs.YtniekapfoaiieaaDoor
open Go Go.Kx
open Go.ChangeShapes Go.WideShapes Go.ChangeAt Go.RowKit

theorem hd_cells (x : Hd) : hdC x = ([[.int .i64 x.m],[.int .i64 x.r],[.bool x.v0.1],[.int .u64 ((x.v0.2.1 : Nat) : Int)],bv x.v0.2.2.1,bv x.v0.2.2.2,[.bool x.v1.1],[.int .u64 ((x.v1.2.1 : Nat) : Int)],bv x.v1.2.2.1,bv x.v1.2.2.2,[.bool x.s0.1],[.int .i64 x.s0.2.1],bv x.s0.2.2.1,bv x.s0.2.2.2.1,bv x.s0.2.2.2.2,[.bool x.s1.1],[.int .i64 x.s1.2.1],bv x.s1.2.2.1,bv x.s1.2.2.2.1,bv x.s1.2.2.2.2,[.bool x.s2.1],[.int .i64 x.s2.2.1],bv x.s2.2.2.1,bv x.s2.2.2.2.1,bv x.s2.2.2.2.2,[.bool x.s3.1],[.int .i64 x.s3.2.1],bv x.s3.2.2.1,bv x.s3.2.2.2.1,bv x.s3.2.2.2.2] : List (List Value)).flatten := by simp [hdC,volC,slotC,boxC]
set_option maxRecDepth 20000 in
set_option maxHeartbeats 4000000 in
theorem slotsBoxes_c (h : Hd) (p : List UInt8) (w : World) (hG : (glb 1).holds w) (hT : tabP.holds w) (hk_h : OkHd h) : Calls Tryd.prog 8 #[.agg ([[.int .i64 h.m],[.int .i64 h.r],[.bool h.v0.1],[.int .u64 ((h.v0.2.1 : Nat) : Int)],bv h.v0.2.2.1,bv h.v0.2.2.2,[.bool h.v1.1],[.int .u64 ((h.v1.2.1 : Nat) : Int)],bv h.v1.2.2.1,bv h.v1.2.2.2,[.bool h.s0.1],[.int .i64 h.s0.2.1],bv h.s0.2.2.1,bv h.s0.2.2.2.1,bv h.s0.2.2.2.2,[.bool h.s1.1],[.int .i64 h.s1.2.1],bv h.s1.2.2.1,bv h.s1.2.2.2.1,bv h.s1.2.2.2.2,[.bool h.s2.1],[.int .i64 h.s2.2.1],bv h.s2.2.2.1,bv h.s2.2.2.2.1,bv h.s2.2.2.2.2,[.bool h.s3.1],[.int .i64 h.s3.2.1],bv h.s3.2.2.1,bv h.s3.2.2.2.1,bv h.s3.2.2.2.2] : List (List Value)).flatten.toArray,.string (str p)] w fun e w' => e = .returned (.bool true) ∧ Mem w [] w' [] := by
 have hM : Mem w [] w [glb 1,tabP] := Mem.startR w (fun g hg => by
  simp only [List.mem_cons,List.not_mem_nil,or_false] at hg
  rcases hg with rfl | rfl
  ·exact ⟨hG,rfl⟩
  ·exact ⟨hT,rfl⟩)
 refine f_enter 112 Tryd.func8 rfl rfl rfl ?_
 intro a hE
 replace hE : Env a 112 [(0,_),(1,_)] := hE
 refine wp_seq_k (fun K1 hK1 => ?_)
 refine wp_plain [false,true] rfl rfl ?_
 have hbl2_4 : h.v0.2.2.1.length = 32 := hk_h.v0.2.1
 have hbl2_5 : h.v0.2.2.2.length = 32 := hk_h.v0.2.2
 have hbl2_8 : h.v1.2.2.1.length = 32 := hk_h.v1.2.1
 have hbl2_9 : h.v1.2.2.2.length = 32 := hk_h.v1.2.2
 have hbl2_12 : h.s0.2.2.1.length = 16 := hk_h.s0.2.1
 have hbl2_13 : h.s0.2.2.2.1.length = 32 := hk_h.s0.2.2.1
 have hbl2_14 : h.s0.2.2.2.2.length = 32 := hk_h.s0.2.2.2
 have hbl2_17 : h.s1.2.2.1.length = 16 := hk_h.s1.2.1
 have hbl2_18 : h.s1.2.2.2.1.length = 32 := hk_h.s1.2.2.1
 have hbl2_19 : h.s1.2.2.2.2.length = 32 := hk_h.s1.2.2.2
 have hbl2_22 : h.s2.2.2.1.length = 16 := hk_h.s2.2.1
 have hbl2_23 : h.s2.2.2.2.1.length = 32 := hk_h.s2.2.2.1
 have hbl2_24 : h.s2.2.2.2.2.length = 32 := hk_h.s2.2.2.2
 have hbl2_27 : h.s3.2.2.1.length = 16 := hk_h.s3.2.1
 have hbl2_28 : h.s3.2.2.2.1.length = 32 := hk_h.s3.2.2.1
 have hbl2_29 : h.s3.2.2.2.2.length = 32 := hk_h.s3.2.2.2
 refine s_box (ss := [[.int .i64 h.m],[.int .i64 h.r],[.bool h.v0.1],[.int .u64 ((h.v0.2.1 : Nat) : Int)],bv h.v0.2.2.1,bv h.v0.2.2.2,[.bool h.v1.1],[.int .u64 ((h.v1.2.1 : Nat) : Int)],bv h.v1.2.2.1,bv h.v1.2.2.2,[.bool h.s0.1],[.int .i64 h.s0.2.1],bv h.s0.2.2.1,bv h.s0.2.2.2.1,bv h.s0.2.2.2.2,[.bool h.s1.1],[.int .i64 h.s1.2.1],bv h.s1.2.2.1,bv h.s1.2.2.2.1,bv h.s1.2.2.2.2,[.bool h.s2.1],[.int .i64 h.s2.2.1],bv h.s2.2.2.1,bv h.s2.2.2.2.1,bv h.s2.2.2.2.2,[.bool h.s3.1],[.int .i64 h.s3.2.1],bv h.s3.2.2.1,bv h.s3.2.2.2.1,bv h.s3.2.2.2.2]) [1,1,1,1,32,32,1,1,32,32,1,1,16,32,32,1,1,16,32,32,1,1,16,32,32,1,1,16,32,32] hE hM rfl rfl (by simp only [List.map_cons,List.map_nil,bv_length,List.length_cons,List.length_nil,List.length_replicate,hbl2_4,hbl2_5,hbl2_8,hbl2_9,hbl2_12,hbl2_13,hbl2_14,hbl2_17,hbl2_18,hbl2_19,hbl2_22,hbl2_23,hbl2_24,hbl2_27,hbl2_28,hbl2_29]) rfl ?_;clear hE a;intro a b2 w1 hE hM'
 clear hM;have hM := hM';clear hM'
 refine s_assign hE rfl rfl ?_;clear hE a;intro a hE
 refine q_nil ?_
 replace hE : Env a 112 [(1,_),(2,_),(4,_)] := hE.sel [1,2,4] rfl
 refine hK1 _ _ ?_
 refine wp_seq_k (fun K2 hK2 => ?_)
 refine wp_seq_k (fun K3 hK3 => ?_)
 refine wp_plain [true,true,false] rfl rfl ?_
 refine s_loadN hE rfl (hM.get 0 rfl) row62 rfl (by intro X h;cases h) rfl ?_;clear hE a;intro a hE
 replace hE := hE.cast 16 rfl (show _ = Value.agg ([[.int .i64 h.m],[.int .i64 h.r],[.bool h.v0.1],[.int .u64 ((h.v0.2.1 : Nat) : Int)],bv h.v0.2.2.1,bv h.v0.2.2.2,[.bool h.v1.1],[.int .u64 ((h.v1.2.1 : Nat) : Int)],bv h.v1.2.2.1,bv h.v1.2.2.2,[.bool h.s0.1],[.int .i64 h.s0.2.1],bv h.s0.2.2.1,bv h.s0.2.2.2.1,bv h.s0.2.2.2.2,[.bool h.s1.1],[.int .i64 h.s1.2.1],bv h.s1.2.2.1,bv h.s1.2.2.2.1,bv h.s1.2.2.2.2,[.bool h.s2.1],[.int .i64 h.s2.2.1],bv h.s2.2.2.1,bv h.s2.2.2.2.1,bv h.s2.2.2.2.2,[.bool h.s3.1],[.int .i64 h.s3.2.1],bv h.s3.2.2.1,bv h.s3.2.2.2.1,bv h.s3.2.2.2.2] : List (List Value)).flatten.toArray from (by first | rfl | simp only [List.flatten_cons,List.flatten_nil,List.append_nil,List.append_assoc]))
 refine s_move hE rfl rfl ?_;clear hE a;intro a hE
 refine s_call hE rfl Tryd.call27 (large25_c h p 1 _ hk_h) rfl ?_
 rintro e w2 ⟨rfl,hN⟩
 refine ⟨_,rfl,trivial,?_⟩;clear hE a;intro a hE
 replace hM : Mem _ _ w2 [_,_,_] := hM.call0 hN trivial;clear hN
 refine q_nil ?_
 replace hE : Env a 112 [(1,_),(2,_),(4,_),(18,_)] := hE.sel [1,2,4,18] rfl
 refine hK3 _ _ ?_
 refine hE.split 18 rfl (fun hb18 hE' => ?_) (fun hb18 hE' => ?_)
 ·replace hE := hE';clear hE'
  refine wp_cond_true (hE.eval rfl) ?_
  refine wp_seq_k (fun K4 hK4 => ?_)
  refine wp_plain [false,true] rfl rfl ?_
  refine s_call hE rfl Tryd.call28 (awake25_c  _ (hM.get 1 rfl) (hM.get 2 rfl)) rfl ?_
  rintro e w3 ⟨rfl,hN⟩
  refine ⟨_,rfl,trivial,?_⟩;clear hE a;intro a hE
  replace hM : Mem _ _ w3 [_,_,_] := hM.call0 hN trivial;clear hN
  refine s_assign hE rfl rfl ?_;clear hE a;intro a hE
  refine q_nil ?_
  replace hE : Env a 112 [(1,_),(2,_),(4,_),(18,_)] := hE.sel [1,2,4,18] rfl
  refine hK4 _ _ ?_
  refine wp_ret ?_
  refine q_then_r ?_
  refine f_ret1 hE rfl rfl ?_
  exact ⟨(by first | rfl | (simp;done)),hM.pick [] rfl⟩
 ·replace hE := hE';clear hE'
  refine wp_cond_false (hE.eval rfl) ?_
  refine wp_skip ?_
  refine hK2 _ _ ?_
  refine wp_seq_k (fun K4 hK4 => ?_)
  refine wp_plain [true,true,false,true,true,true,true,false,false,true,true] rfl rfl ?_
  refine s_loadN hE rfl (hM.get 0 rfl) row62 rfl (by intro X h;cases h) rfl ?_;clear hE a;intro a hE
  replace hE := hE.cast 21 rfl (show _ = Value.agg ([[.int .i64 h.m],[.int .i64 h.r],[.bool h.v0.1],[.int .u64 ((h.v0.2.1 : Nat) : Int)],bv h.v0.2.2.1,bv h.v0.2.2.2,[.bool h.v1.1],[.int .u64 ((h.v1.2.1 : Nat) : Int)],bv h.v1.2.2.1,bv h.v1.2.2.2,[.bool h.s0.1],[.int .i64 h.s0.2.1],bv h.s0.2.2.1,bv h.s0.2.2.2.1,bv h.s0.2.2.2.2,[.bool h.s1.1],[.int .i64 h.s1.2.1],bv h.s1.2.2.1,bv h.s1.2.2.2.1,bv h.s1.2.2.2.2,[.bool h.s2.1],[.int .i64 h.s2.2.1],bv h.s2.2.2.1,bv h.s2.2.2.2.1,bv h.s2.2.2.2.2,[.bool h.s3.1],[.int .i64 h.s3.2.1],bv h.s3.2.2.1,bv h.s3.2.2.2.1,bv h.s3.2.2.2.2] : List (List Value)).flatten.toArray from (by first | rfl | simp only [List.flatten_cons,List.flatten_nil,List.append_nil,List.append_assoc]))
  refine s_move hE rfl rfl ?_;clear hE a;intro a hE
  refine s_call hE rfl Tryd.call29 (unlock_c h p _ (hM.get 1 rfl) (hM.get 2 rfl) hk_h) rfl ?_
  rintro e w3 ⟨rfl,hN⟩
  refine ⟨_,rfl,trivial,?_⟩;clear hE a;intro a hE
  replace hM : Mem _ _ w3 [_,_,_] := hM.call0 hN trivial;clear hN
  refine s_move hE rfl rfl ?_;clear hE a;intro a hE
  refine s_extract hE rfl rfl rfl ?_;clear hE a;intro a hE
  refine s_extract hE rfl rfl rfl ?_;clear hE a;intro a hE
  refine s_extract hE rfl rfl rfl ?_;clear hE a;intro a hE
  refine s_alloc [32] hE hM zero23 rfl rfl ?_;clear hE a;intro a b5 w4 hE hM'
  clear hM;have hM := hM';clear hM'
  refine s_storeSeg 0 hE rfl rfl hM rfl sz23 ((bv_length _).trans (unl_len hk_h p)) (bv_one _) rfl ((bv_length _).trans (by first | (simp;done) | (simp [*];done) | (simp;omega))) rfl (by intro X h;cases h) ?_;intro w5 hM';clear hM;have hM := hM';clear hM'
  simp only [List.set_cons_zero,List.set_cons_succ] at hM
  refine s_assign hE rfl rfl ?_;clear hE a;intro a hE
  refine s_assign hE rfl rfl ?_;clear hE a;intro a hE
  refine q_nil ?_
  replace hE : Env a 112 [(1,_),(2,_),(4,_),(5,_),(6,_),(7,_),(18,_)] := hE.sel [1,2,4,5,6,7,18] rfl
  refine hK4 _ _ ?_
  refine wp_seq_k (fun K5 hK5 => ?_)
  refine wp_seq_k (fun K6 hK6 => ?_)
  refine wp_plain [true,true] rfl rfl ?_
  refine s_move hE rfl rfl ?_;clear hE a;intro a hE
  refine s_bin hE rfl rfl bin_eql rfl ?_;clear hE a;intro a hE
  refine q_nil ?_
  replace hE : Env a 112 [(1,_),(2,_),(4,_),(5,_),(6,_),(7,_),(18,_),(28,_)] := hE.sel [1,2,4,5,6,7,18,28] rfl
  refine hK6 _ _ ?_
  refine hE.split 28 rfl (fun hb28 hE' => ?_) (fun hb28 hE' => ?_)
  ·replace hE := hE';clear hE'
   replace hb28 := of_decide_eq_true hb28
   replace hb28 : ((unl h p).2.2) = 2 := by omega
   have hz1 := unl_two hb28
   refine wp_cond_true (hE.eval rfl) ?_
   refine wp_seq_k (fun K7 hK7 => ?_)
   refine wp_plain [true,true,true,true,false,true,true] rfl rfl ?_
   refine s_loadN hE rfl (hM.get 0 rfl) row23 rfl (by intro X h;cases h) rfl ?_;clear hE a;intro a hE
   refine s_build (r := .agg (bv (List.replicate 32 (0 : UInt8))).toArray) _ hE rfl (fun w => by kernel_rfl) rfl ?_;clear hE a;intro a hE
   refine s_bin hE rfl rfl (eqa23 (unl_len hk_h p) (by first | (simp;done) | (simp [*];done) | (simp;omega))).1 rfl ?_;clear hE a;intro a hE
   refine s_move hE rfl rfl ?_;clear hE a;intro a hE
   replace hE := hE.cast 32 rfl (show _ = Value.bool true from (congrArg Value.bool (decide_eq_true (by rw [hz1]))))
   refine g_yes hE rfl rfl ?_
   refine s_call hE rfl Tryd.call28 (awake25_c  _ (hM.get 2 rfl) (hM.get 3 rfl)) rfl ?_
   rintro e w6 ⟨rfl,hN⟩
   refine ⟨_,rfl,trivial,?_⟩;clear hE a;intro a hE
   replace hM : Mem _ _ w6 [_,_,_,_] := hM.call0 hN trivial;clear hN
   refine s_pickt hE rfl rfl rfl ?_;clear hE a;intro a hE
   refine s_assign hE rfl rfl ?_;clear hE a;intro a hE
   refine q_nil ?_
   replace hE : Env a 112 [(1,_),(2,_),(4,_),(5,_),(6,_),(7,_),(18,_),(28,_)] := hE.sel [1,2,4,5,6,7,18,28] rfl
   refine hK7 _ _ ?_
   refine wp_ret ?_
   refine q_then_r ?_
   refine f_ret1 hE rfl rfl ?_
   exact ⟨(by first | rfl | (simp;done)),hM.pick [] rfl⟩
  ·replace hE := hE';clear hE'
   replace hb28 := of_decide_eq_false hb28
   replace hb28 : ¬ (((unl h p).2.2) = 2) := by omega
   have hmay : mayS h p = true := unl_may hb28
   have hck : checkH h = 0 := by simp [mayS] at hmay;exact hmay.2
   have hop : okp p = true := by simp [mayS] at hmay;exact hmay.1
   have hps := passE_zero.2 hop
   have hc0 := chk_slot hck 0 (by decide)
   have hc1 := chk_slot hck 1 (by decide)
   have hc2 := chk_slot hck 2 (by decide)
   have hc3 := chk_slot hck 3 (by decide)
   simp only [getS] at hc0 hc1 hc2 hc3
   refine wp_cond_false (hE.eval rfl) ?_
   refine wp_skip ?_
   refine hK5 _ _ ?_
   refine wp_seq_k (fun K7 hK7 => ?_)
   refine wp_plain [true,false,true,true,true,true,true] rfl rfl ?_
   refine s_move hE rfl rfl ?_;clear hE a;intro a hE
   refine s_call hE rfl Tryd.call30 (pass_a p _) rfl ?_
   rintro e w6 ⟨v37,rfl,hN⟩
   refine ⟨_,rfl,trivial,?_⟩;clear hE a;intro a hE
   replace hM : Mem _ _ w6 [_,_,_,_,_] := hM.call0 hN ⟨rfl,trivial⟩;clear hN
   refine s_move hE rfl rfl ?_;clear hE a;intro a hE
   refine s_extract hE rfl rfl rfl ?_;clear hE a;intro a hE
   refine s_extract hE rfl rfl rfl ?_;clear hE a;intro a hE
   refine s_assign hE rfl rfl ?_;clear hE a;intro a hE
   refine s_assign hE rfl rfl ?_;clear hE a;intro a hE
   refine q_nil ?_
   replace hE : Env a 112 [(1,_),(2,_),(4,_),(5,_),(6,_),(7,_),(8,_),(9,_),(18,_),(28,_)] := hE.sel [1,2,4,5,6,7,8,9,18,28] rfl
   refine hK7 _ _ ?_
   refine wp_seq_k (fun K8 hK8 => ?_)
   refine wp_seq_k (fun K9 hK9 => ?_)
   refine wp_plain [true,true] rfl rfl ?_
   refine s_move hE rfl rfl ?_;clear hE a;intro a hE
   refine s_bin hE rfl rfl bin_neq rfl ?_;clear hE a;intro a hE
   refine q_nil ?_
   replace hE : Env a 112 [(1,_),(2,_),(4,_),(5,_),(6,_),(7,_),(8,_),(18,_),(28,_),(41,_)] := hE.sel [1,2,4,5,6,7,8,18,28,41] rfl
   refine hK9 _ _ ?_
   replace hE := hE.cast 41 rfl (show _ = Value.bool false from (congrArg Value.bool (by rw [hps];rfl)))
   refine wp_cond_false (hE.eval rfl) ?_
   refine wp_skip ?_
   refine hK8 _ _ ?_
   refine wp_seq_k (fun K10 hK10 => ?_)
   refine wp_seq_k (fun K11 hK11 => ?_)
   refine wp_plain [true] rfl rfl ?_
   refine s_assign hE rfl rfl ?_;clear hE a;intro a hE
   rcases unl_five hmay with ⟨k,hk4,hqk,hqb,hun⟩ | ⟨hqn,hun⟩
   ·replace hE := hE.cast 6 rfl (show _ = Value.int .i64 ((k : Nat) : Int) from congrArg (fun q : List UInt8 × Nat × Nat => Value.int .i64 (q.2.1 : Int)) hun)
    replace hE := hE.cast 7 rfl (show _ = Value.int .i64 0 from congrArg (fun q : List UInt8 × Nat × Nat => Value.int .i64 (q.2.2 : Int)) hun)
    replace hM : Mem _ _ w6 [_,_,_,_,_] := hM.pick [1,0,2,3,4] rfl
    replace hM := Mem.blkB (p := (unl h p).1) (q := arS p (getS h k)) hM (by rw [hun])
    refine q_nil ?_
    refine hK11 _ _ ?_
    refine wp_block ?_
    refine wp_loop_rounds 5 ?_
    refine c_roundsJ (fun a w' => True ∧ Env a 112 [(1,.string (str p)),(2,.pointer (some ⟨b2,0,none⟩)),(4,.bool false),(5,.pointer (some ⟨b5,0,none⟩)),(6,.int .i64 ((k : Nat) : Int)),(7,.int .i64 0),(8,v37),(10,.int .i64 1),(18,.bool false),(28,.bool false),(41,.bool false)] ∧ Mem w [] w' [blk b5 [bv (arS p (getS h k))] [32] 23,own v37 1 (phrZ p).length (bv (phrZ p)),blk b2 [[.int .i64 h.m],[.int .i64 h.r],[.bool h.v0.1],[.int .u64 ((h.v0.2.1 : Nat) : Int)],bv h.v0.2.2.1,bv h.v0.2.2.2,[.bool h.v1.1],[.int .u64 ((h.v1.2.1 : Nat) : Int)],bv h.v1.2.2.1,bv h.v1.2.2.2,[.bool h.s0.1],[.int .i64 h.s0.2.1],bv h.s0.2.2.1,bv h.s0.2.2.2.1,bv h.s0.2.2.2.2,[.bool h.s1.1],[.int .i64 h.s1.2.1],bv h.s1.2.2.1,bv h.s1.2.2.2.1,bv h.s1.2.2.2.2,[.bool h.s2.1],[.int .i64 h.s2.2.1],bv h.s2.2.2.1,bv h.s2.2.2.2.1,bv h.s2.2.2.2.2,[.bool h.s3.1],[.int .i64 h.s3.2.1],bv h.s3.2.2.1,bv h.s3.2.2.2.1,bv h.s3.2.2.2.2] [1,1,1,1,32,32,1,1,32,32,1,1,16,32,32,1,1,16,32,32,1,1,16,32,32,1,1,16,32,32] 62,glb 1,tabP]) ?_ ?_
    ·skip
     refine wp_seq_k (fun K12 hK12 => ?_)
     refine wp_seq_k (fun K13 hK13 => ?_)
     refine wp_plain [true,true] rfl rfl ?_
     refine s_move hE rfl rfl ?_;clear hE a;intro a hE
     refine s_bin hE rfl rfl bin_lss rfl ?_;clear hE a;intro a hE
     replace hE := hE.cast 43 rfl (show _ = Value.bool true from (congrArg Value.bool (by decide)))
     refine q_nil ?_
     replace hE : Env a 112 [(1,_),(2,_),(4,_),(5,_),(6,_),(7,_),(8,_),(10,_),(18,_),(28,_),(41,_),(43,_)] := hE.sel [1,2,4,5,6,7,8,10,18,28,41,43] rfl
     refine hK13 _ _ ?_
     refine wp_cond_true (hE.eval rfl) ?_
     refine wp_skip ?_
     refine hK12 _ _ ?_
     refine wp_seq_k (fun K14 hK14 => ?_)
     refine wp_block ?_
     refine wp_seq_k (fun K15 hK15 => ?_)
     refine wp_plain [true,true,true,true,false,false] rfl rfl ?_
     refine s_move hE rfl rfl ?_;clear hE a;intro a hE
     refine s_fieldAddr hE rfl fo62_2 rfl ?_;clear hE a;intro a hE
     refine s_indexArr (j := 0) hE rfl rfl arr60 rfl (by decide) rfl ?_;clear hE a;intro a hE
     refine s_loadN hE rfl (hM.get 2 rfl) row59 rfl (by intro X h;cases h) rfl ?_;clear hE a;intro a hE
     replace hE := hE.cast 49 rfl (show _ = Value.agg ([[.bool h.s0.1],[.int .i64 h.s0.2.1],bv h.s0.2.2.1,bv h.s0.2.2.2.1,bv h.s0.2.2.2.2] : List (List Value)).flatten.toArray from (by first | rfl | simp only [List.flatten_cons,List.flatten_nil,List.append_nil,List.append_assoc]))
     refine s_alloc [1,1,16,32,32] hE hM zeroL59 rfl rfl ?_;clear hE a;intro a b11 w7 hE hM'
     clear hM;have hM := hM';clear hM'
     have hsl203_2 : h.s0.2.2.1.length = 16 := hk_h.s0.2.1
     have hsl203_3 : h.s0.2.2.2.1.length = 32 := hk_h.s0.2.2.1
     have hsl203_4 : h.s0.2.2.2.2.length = 32 := hk_h.s0.2.2.2
     refine s_storeSegs 0 5 (vss := [[.bool h.s0.1],[.int .i64 h.s0.2.1],bv h.s0.2.2.1,bv h.s0.2.2.2.1,bv h.s0.2.2.2.2]) hE rfl rfl hM rfl sz59 (by simp only [List.take_succ_cons,List.take_zero,List.drop_zero,List.drop_succ_cons];simp only [List.map_cons,List.map_nil,bv_length,List.length_cons,List.length_nil,List.length_replicate,hsl203_2,hsl203_3,hsl203_4]) (by decide) rfl (one_fl ⟨one1 rfl,one1 rfl,bv_one _,bv_one _,bv_one _,trivial⟩) rfl (by intro X h;cases h) ?_;intro w8 hM';clear hM;have hM := hM';clear hM'
     try simp only [List.take_zero,List.take_succ_cons,List.drop_zero,List.drop_succ_cons,List.take_nil,List.drop_nil,List.nil_append,List.append_nil,List.cons_append] at hM
     refine q_nil ?_
     replace hE : Env a 112 [(1,_),(2,_),(4,_),(5,_),(6,_),(7,_),(8,_),(10,_),(11,_),(18,_),(28,_),(41,_),(43,_)] := hE.sel [1,2,4,5,6,7,8,10,11,18,28,41,43] rfl
     refine hK15 _ _ ?_
     refine wp_seq_k (fun K16 hK16 => ?_)
     refine wp_seq_k (fun K17 hK17 => ?_)
     refine wp_plain [true,true,true,true,true,true,true,true,true,true,true,true] rfl rfl ?_
     refine s_fieldAddr hE rfl fo59_0 rfl ?_;clear hE a;intro a hE
     refine s_load1 hE rfl (hM.get 0 rfl) rfl one4 (by intro X h;cases h) rfl ?_;clear hE a;intro a hE
     refine s_not hE rfl rfl ?_;clear hE a;intro a hE
     refine s_move hE rfl rfl ?_;clear hE a;intro a hE
     refine hE.split 53 rfl (fun hb53 hE' => ?_) (fun hb53 hE' => ?_)
     ·replace hE := hE';clear hE'
      replace hb53 := not_true hb53
      refine g_no (b := true) hE rfl rfl rfl ?_;clear hE a;intro a hE
      refine g_no (b := true) hE rfl rfl rfl ?_;clear hE a;intro a hE
      refine g_no (b := true) hE rfl rfl rfl ?_;clear hE a;intro a hE
      refine g_und hE rfl rfl rfl ?_;clear hE a;intro a hE
      refine g_und hE rfl rfl rfl ?_;clear hE a;intro a hE
      refine g_und hE rfl rfl rfl ?_;clear hE a;intro a hE
      refine g_no (b := true) hE rfl rfl rfl ?_;clear hE a;intro a hE
      refine s_pickt hE rfl rfl rfl ?_;clear hE a;intro a hE
      refine q_nil ?_
      replace hE : Env a 112 [(1,_),(2,_),(4,_),(5,_),(6,_),(7,_),(8,_),(10,_),(11,_),(18,_),(28,_),(41,_),(43,_),(61,_)] := hE.sel [1,2,4,5,6,7,8,10,11,18,28,41,43,61] rfl
      refine hK17 _ _ ?_
      refine wp_cond_true (hE.eval rfl) ?_
      refine wp_exit ?_
      refine q_then_e ?_
      refine q_block_x ?_
      refine hK14 _ _ ?_
      refine wp_plain [true,true,true] rfl rfl ?_
      refine s_move hE rfl rfl ?_;clear hE a;intro a hE
      refine s_bin hE rfl rfl (show Bin _ _ _ _ _ (.int .i64 1) from bin_add (by rw [wrap_i64 (by omega) (by omega)];omega)) rfl ?_;clear hE a;intro a hE
      refine s_assign hE rfl rfl ?_;clear hE a;intro a hE
      refine q_nil ?_
      replace hE : Env a 112 [(1,_),(2,_),(4,_),(5,_),(6,_),(7,_),(8,_),(10,_),(11,_),(18,_),(28,_),(41,_),(43,_),(61,_)] := hE.sel [1,2,4,5,6,7,8,10,11,18,28,41,43,61] rfl
      replace hM : Mem _ _ w8 [_,_,_,_,_] := hM.pick [1,2,3,4,5] rfl
      refine q_then_n ⟨trivial,hE.sel [1,2,4,5,6,7,8,10,18,28,41] rfl,hM⟩
     ·replace hE := hE';clear hE'
      replace hb53 := not_false' hb53
      have hu1 : h.s0.1 = true := by simpa using hb53
      have hor := hc0 hu1
      refine g_yes hE rfl rfl ?_
      refine s_move hE rfl rfl ?_;clear hE a;intro a hE
      refine g_yes hE rfl rfl ?_
      refine s_bin hE rfl rfl bin_eql rfl ?_;clear hE a;intro a hE
      replace hE := hE.cast 55 rfl (show _ = Value.bool true from (congrArg Value.bool (by decide)))
      refine g_yes hE rfl rfl ?_
      refine s_move hE rfl rfl ?_;clear hE a;intro a hE
      refine g_yes hE rfl rfl ?_
      refine s_move hE rfl rfl ?_;clear hE a;intro a hE
      refine g_yes hE rfl rfl ?_
      refine s_move hE rfl rfl ?_;clear hE a;intro a hE
      refine g_yes hE rfl rfl ?_
      refine s_bin hE rfl rfl bin_gtr rfl ?_;clear hE a;intro a hE
      refine g_yes hE rfl rfl ?_
      refine s_pickt hE rfl rfl rfl ?_;clear hE a;intro a hE
      refine s_pickf hE rfl rfl rfl ?_;clear hE a;intro a hE
      refine q_nil ?_
      replace hE : Env a 112 [(1,_),(2,_),(4,_),(5,_),(6,_),(7,_),(8,_),(10,_),(11,_),(18,_),(28,_),(41,_),(43,_),(61,_)] := hE.sel [1,2,4,5,6,7,8,10,11,18,28,41,43,61] rfl
      refine hK17 _ _ ?_
      refine hE.split 61 rfl (fun hb61 hE' => ?_) (fun hb61 hE' => ?_)
      ·replace hE := hE';clear hE'
       replace hb61 := of_decide_eq_true hb61
       replace hb61 : k < 0 := by omega
       refine wp_cond_true (hE.eval rfl) ?_
       refine wp_exit ?_
       refine q_then_e ?_
       refine q_block_x ?_
       refine hK14 _ _ ?_
       refine wp_plain [true,true,true] rfl rfl ?_
       refine s_move hE rfl rfl ?_;clear hE a;intro a hE
       refine s_bin hE rfl rfl (show Bin _ _ _ _ _ (.int .i64 1) from bin_add (by rw [wrap_i64 (by omega) (by omega)];omega)) rfl ?_;clear hE a;intro a hE
       refine s_assign hE rfl rfl ?_;clear hE a;intro a hE
       refine q_nil ?_
       replace hE : Env a 112 [(1,_),(2,_),(4,_),(5,_),(6,_),(7,_),(8,_),(10,_),(11,_),(18,_),(28,_),(41,_),(43,_),(61,_)] := hE.sel [1,2,4,5,6,7,8,10,11,18,28,41,43,61] rfl
       replace hM : Mem _ _ w8 [_,_,_,_,_] := hM.pick [1,2,3,4,5] rfl
       refine q_then_n ⟨trivial,hE.sel [1,2,4,5,6,7,8,10,18,28,41] rfl,hM⟩
      ·replace hE := hE';clear hE'
       replace hb61 := of_decide_eq_false hb61
       replace hb61 : ¬ (k < 0) := by omega
       refine wp_cond_false (hE.eval rfl) ?_
       refine wp_skip ?_
       refine hK16 _ _ ?_
       refine wp_seq_k (fun K18 hK18 => ?_)
       refine wp_drawnM hM (by kernel_rfl) (fun _ => False) [(0,true),(1,true),(2,true),(3,true),(4,true),(5,false),(6,true),(7,true),(8,true),(9,true),(10,true)] [(5,[(6,5),(7,6),(8,6),(9,5),(10,5)])] (by kernel_rfl) rfl ?_
       intro w9 hM' hww9;clear hM;have hM := hM';clear hM'
       refine s_move hE rfl rfl ?_;clear hE a;intro a hE
       refine s_fieldAddr hE rfl fo59_2 rfl ?_;clear hE a;intro a hE
       refine s_sliceArr (l := 0) (h := 16) (mx' := 16) hE rfl arr57 rfl rfl rfl (by simp) (by omega) (by omega) (by omega) rfl ?_;clear hE a;intro a hE
       replace hE := hE.cast 65 rfl (show _ = Value.slice (some ⟨b11,2,none⟩) 16 16 from rfl)
       refine s_fieldAddr hE rfl fo59_1 rfl ?_;clear hE a;intro a hE
       refine s_load1 hE rfl (hM.get 0 rfl) rfl one3 (by intro X h;cases h;simp) rfl ?_;clear hE a;intro a hE
       obtain ⟨cq1,hq1⟩ := own_rd (hM.get 2 rfl)
       refine s_call hE rfl Tryd.call31 (pkey_a _ _ (phrZ p) h.s0.2.2.1 _ _ h.s0.2.1 _ (hM.get 4 rfl) hq1 (rd_seg8 (N := 16) (hM.get 0 rfl) rfl hk_h.s0.2.1) (by have := phrZ_len p;omega) (by have hl_q : h.s0.2.2.1.length = 16 := hk_h.s0.2.1;omega)) rfl ?_
       rintro e w10 ⟨v68,rfl,hN⟩
       refine ⟨_,rfl,hN.sta0 _,?_⟩;clear hE a;intro a hE
       replace hM : Mem _ _ w10 [_,_,_,_,_,_,_] := hM.call0 hN ⟨rfl,trivial⟩;clear hN
       replace hM := Mem.ownWB (p := keyZ (phrZ p) h.s0.2.2.1 h.s0.2.1) (q := kK p h.s0.2.2.1 h.s0.2.1) hM (by simp [keyZ,phrZ,kK,hop,hor])
       refine s_move hE rfl rfl ?_;clear hE a;intro a hE
       refine s_extract hE rfl rfl rfl ?_;clear hE a;intro a hE
       refine s_extract hE rfl rfl rfl ?_;clear hE a;intro a hE
       refine s_assign hE rfl rfl ?_;clear hE a;intro a hE
       refine s_assign hE rfl rfl ?_;clear hE a;intro a hE
       refine q_nil ?_
       replace hE : Env a 112 [(1,_),(2,_),(4,_),(5,_),(6,_),(7,_),(8,_),(10,_),(11,_),(12,_),(13,_),(18,_),(28,_),(41,_),(43,_),(61,_)] := hE.sel [1,2,4,5,6,7,8,10,11,12,13,18,28,41,43,61] rfl
       refine hK18 _ _ ?_
       refine wp_seq_k (fun K19 hK19 => ?_)
       refine wp_seq_k (fun K20 hK20 => ?_)
       refine wp_plain [true,true,true,true,true,true,true] rfl rfl ?_
       refine s_move hE rfl rfl ?_;clear hE a;intro a hE
       refine s_bin hE rfl rfl bin_neq rfl ?_;clear hE a;intro a hE
       refine s_move hE rfl rfl ?_;clear hE a;intro a hE
       replace hE := hE.cast 73 rfl (show _ = Value.bool false from (congrArg Value.bool (by rw [roundE_zero.2 hor];rfl)))
       refine g_yes hE rfl rfl ?_
       refine s_move hE rfl rfl ?_;clear hE a;intro a hE
       refine g_yes hE rfl rfl ?_
       refine s_len hE rfl Tryd.underlying42 (ownW_slice (hM.get 0 rfl)) rfl ?_;clear hE a;intro a hE
       replace hE := hE.cast 75 rfl (show _ = Value.int .i64 ((32 : Nat) : Int) from (congrArg (fun n : Nat => Value.int .i64 (n : Int)) (kK_len ..)))
       refine g_yes hE rfl rfl ?_
       refine s_bin hE rfl rfl bin_neq rfl ?_;clear hE a;intro a hE
       replace hE := hE.cast 76 rfl (show _ = Value.bool false from (congrArg Value.bool (by decide)))
       refine s_pickf hE rfl rfl rfl ?_;clear hE a;intro a hE
       refine q_nil ?_
       replace hE : Env a 112 [(1,_),(2,_),(4,_),(5,_),(6,_),(7,_),(8,_),(10,_),(11,_),(12,_),(13,_),(18,_),(28,_),(41,_),(43,_),(61,_),(77,_)] := hE.sel [1,2,4,5,6,7,8,10,11,12,13,18,28,41,43,61,77] rfl
       refine hK20 _ _ ?_
       refine wp_cond_false (hE.eval rfl) ?_
       refine wp_skip ?_
       refine hK19 _ _ ?_
       refine wp_seq_j (fun a w' => ∃ (b14 : Nat),Env a 112 [(1,.string (str p)),(2,.pointer (some ⟨b2,0,none⟩)),(4,.bool false),(5,.pointer (some ⟨b5,0,none⟩)),(6,.int .i64 ((k : Nat) : Int)),(7,.int .i64 0),(8,v37),(10,.int .i64 0),(11,.pointer (some ⟨b11,0,none⟩)),(12,v68),(13,.int .i64 ((roundE h.s0.2.1 : Nat) : Int)),(14,.pointer (some ⟨b14,0,none⟩)),(15,.int .i64 ((unwE (kK p h.s0.2.2.1 h.s0.2.1) [115,108,111,116] 0 h.s0.2.2.2.1 h.s0.2.2.2.2 : Nat) : Int)),(18,.bool false),(28,.bool false),(41,.bool false),(43,.bool true),(61,.bool false),(77,.bool false)] ∧ Mem w [] w' [blk b14 [bv (unwK (kK p h.s0.2.2.1 h.s0.2.1) [115,108,111,116] 0 h.s0.2.2.2.1 h.s0.2.2.2.2)] [32] 23,ownW v68 1 (kK p h.s0.2.2.1 h.s0.2.1).length (bv (kK p h.s0.2.2.1 h.s0.2.1)),blk b11 [[.bool h.s0.1],[.int .i64 h.s0.2.1],bv h.s0.2.2.1,bv h.s0.2.2.2.1,bv h.s0.2.2.2.2] [1,1,16,32,32] 59,blk b5 [bv (arS p (getS h k))] [32] 23,own v37 1 (phrZ p).length (bv (phrZ p)),blk b2 [[.int .i64 h.m],[.int .i64 h.r],[.bool h.v0.1],[.int .u64 ((h.v0.2.1 : Nat) : Int)],bv h.v0.2.2.1,bv h.v0.2.2.2,[.bool h.v1.1],[.int .u64 ((h.v1.2.1 : Nat) : Int)],bv h.v1.2.2.1,bv h.v1.2.2.2,[.bool h.s0.1],[.int .i64 h.s0.2.1],bv h.s0.2.2.1,bv h.s0.2.2.2.1,bv h.s0.2.2.2.2,[.bool h.s1.1],[.int .i64 h.s1.2.1],bv h.s1.2.2.1,bv h.s1.2.2.2.1,bv h.s1.2.2.2.2,[.bool h.s2.1],[.int .i64 h.s2.2.1],bv h.s2.2.2.1,bv h.s2.2.2.2.1,bv h.s2.2.2.2.2,[.bool h.s3.1],[.int .i64 h.s3.2.1],bv h.s3.2.2.1,bv h.s3.2.2.2.1,bv h.s3.2.2.2.2] [1,1,1,1,32,32,1,1,32,32,1,1,16,32,32,1,1,16,32,32,1,1,16,32,32,1,1,16,32,32] 62,glb 1,tabP]) ?_ ?_
       ·refine wp_treeM hM (by kernel_rfl) (fun _ => True) (fun _ => True) (.re [(0,true),(1,true),(3,true),(2,true),(4,true),(5,false),(6,true),(7,true),(8,true),(9,false),(10,false),(11,true)] (.fl 3 (.weak (.fl 2 (.or 5 (.re [(6,true),(7,true),(8,true),(9,false),(10,false),(11,true)] (.fl 3 (.fl 0 (.or 9 (.re [(10,false),(11,true)] (.fl 0 (.fl 0 (.or 10 (.cut (.re [(11,true)] (.weak (.leaf 1)))) (.stop))))) (.stop))))) (.or 9 (.cut (.re [(5,false),(6,true),(7,true),(8,true),(10,false),(11,true)] (.fl 0 (.fl 0 (.or 5 (.re [(6,true),(7,true),(8,true),(10,false),(11,true)] (.fl 3 (.fl 0 (.weak (.or 10 (.cut (.re [(11,true)] (.weak (.leaf 1)))) (.stop)))))) (.stop)))))) (.stop))))))) [(0,true),(1,true),(3,true),(2,true),(4,true),(5,false),(6,true),(7,true),(8,true),(9,false),(10,false),(11,true)] [(1,[(2,1),(5,2),(6,5),(7,6),(8,6),(10,1),(11,1)]),(2,[(5,2),(6,5),(7,6),(8,6),(10,2),(11,2)]),(3,[(4,3),(5,4),(6,5),(7,6),(8,6),(10,3),(11,3)]),(4,[(5,4),(6,5),(7,6),(8,6),(10,4),(11,4)]),(5,[(6,5),(7,6),(8,6),(10,5),(11,5)]),(7,[(10,7),(11,7)]),(8,[(11,8)]),(9,[(10,9),(11,9)]),(10,[(11,10)])] (by kernel_rfl) ?_
        intro w11 hM' hww11;clear hM;have hM := hM';clear hM'
        refine o_re ?_
        refine o_fl rfl ?_
        refine s_move hE rfl rfl ?_;clear hE a;intro a hE
        refine s_toArrW hE rfl (hM.get 0 rfl) rfl (kK_len ..) (by decide) Tryd.underlying23 rfl ?_;clear hE a;intro a p80 hE hc80 hv80
        refine s_fieldAddr hE rfl fo59_3 rfl ?_;clear hE a;intro a hE
        refine q_nil (q_nx ?_)
        refine o_weak (fun b => b ≠ b11 ∧ b ∉ valBlocks v68) (fun _ _ => trivial) ?_
        refine o_fl rfl ?_
        refine s_loadAtN hE rfl hc80 (by rw [bv_length,kK_len];exact row23) (by intro X h;cases h;exact fun b hb hx => hx.2 (hv80 b hb)) rfl ?_;clear hE a;intro a hE
        refine s_loadN hE rfl (hM.get 1 rfl) row29 rfl (by intro X h;cases h;simp) rfl ?_;clear hE a;intro a hE
        replace hE := hE.cast 83 rfl (show _ = Value.agg ([bv h.s0.2.2.2.1,bv h.s0.2.2.2.2] : List (List Value)).flatten.toArray from (by first | rfl | simp only [List.flatten_cons,List.flatten_nil,List.append_nil,List.append_assoc]))
        refine q_nil (q_nx ?_)
        refine o_or rfl ?_ ?_
        ·refine s_call hE rfl Tryd.call16 (unwrap_c (kK p h.s0.2.2.1 h.s0.2.1) [115,108,111,116] 0 h.s0.2.2.2.1 h.s0.2.2.2.2 _ (hM.get 5 rfl) (hM.get 6 rfl) (kK_len ..) hk_h.s0.2.2.1 hk_h.s0.2.2.2 (by have hl_0 : (kK p h.s0.2.2.1 h.s0.2.1).length = 32 := (kK_len ..);have hl_1 : [115,108,111,116].length = 4 := (by first | (simp;done) | (simp [*];done) | (simp;omega));have hl_3d : h.s0.2.2.2.1.length = 32 := hk_h.s0.2.2.1;have hl_3t : h.s0.2.2.2.2.length = 32 := hk_h.s0.2.2.2;first | omega | assumption | (simp;done) | (simp;omega) | decide) (by have hl_0 : (kK p h.s0.2.2.1 h.s0.2.1).length = 32 := (kK_len ..);have hl_1 : [115,108,111,116].length = 4 := (by first | (simp;done) | (simp [*];done) | (simp;omega));have hl_3d : h.s0.2.2.2.1.length = 32 := hk_h.s0.2.2.1;have hl_3t : h.s0.2.2.2.2.length = 32 := hk_h.s0.2.2.2;first | omega | assumption | (simp;done) | (simp;omega) | decide)) rfl ?_
         rintro e w12 ⟨rfl,hN⟩
         refine ⟨_,rfl,hN.sta0 _,?_⟩;clear hE a;intro a hE
         replace hM : Mem _ _ w12 [_,_,_,_,_,_,_] := hM.call0 hN trivial;clear hN
         refine q_nil (q_nx ?_)
         refine o_re ?_
         refine o_fl rfl ?_
         refine s_move hE rfl rfl ?_;clear hE a;intro a hE
         refine s_extract hE rfl rfl rfl ?_;clear hE a;intro a hE
         refine s_extract hE rfl rfl rfl ?_;clear hE a;intro a hE
         refine q_nil (q_nx ?_)
         refine o_fl rfl ?_
         refine q_nil (q_nx ?_)
         refine o_or rfl ?_ ?_
         ·refine s_alloc [32] hE hM zero23 rfl rfl ?_;clear hE a;intro a b14 w13 hE hM'
          clear hM;have hM := hM';clear hM'
          refine q_nil (q_nx ?_)
          refine o_re ?_
          refine o_fl rfl ?_
          refine q_nil (q_nx ?_)
          refine o_fl rfl ?_
          refine q_nil (q_nx ?_)
          refine o_or rfl ?_ ?_
          ·refine s_storeSeg 0 hE rfl rfl hM rfl sz23 ((bv_length _).trans (unwK_len (k := (kK p h.s0.2.2.1 h.s0.2.1)) (l := [115,108,111,116]) (n := 0) (d := h.s0.2.2.2.1) (t := h.s0.2.2.2.2) (by have hl_std : h.s0.2.2.2.1.length = 32 := hk_h.s0.2.2.1;first | assumption | (simp;done)))) (bv_one _) rfl ((bv_length _).trans (by first | (simp;done) | (simp [*];done) | (simp;omega))) rfl (by intro X h;cases h;exact ⟨fun e => ((apart_of_get hM.apart (i := 0) (j := 2) rfl rfl (by decide)).1 _ (.head _)).1 (by rw [e];exact .head _),fun hv => ((apart_of_get hM.apart (i := 0) (j := 1) rfl rfl (by decide)).1 _ (.head _)).1 hv⟩) ?_;intro w14 hM';clear hM;have hM := hM';clear hM'
           simp only [List.set_cons_zero,List.set_cons_succ] at hM
           refine q_nil (q_nx ?_)
           refine o_cut (fun _ => True) ?_
           refine o_re ?_
           refine o_weak (fun _ => False) (fun _ _ => trivial) ?_
           refine o_leaf rfl rfl ?_
           refine s_assign hE rfl rfl ?_;clear hE a;intro a hE
           refine q_nil (q_ph (q_nil ?_))
           replace hE : Env a 112 [(1,_),(2,_),(4,_),(5,_),(6,_),(7,_),(8,_),(10,_),(11,_),(12,_),(13,_),(14,_),(15,_),(18,_),(28,_),(41,_),(43,_),(61,_),(77,_)] := hE.sel [1,2,4,5,6,7,8,10,11,12,13,14,15,18,28,41,43,61,77] rfl
           replace hM : Mem _ _ w14 [_,_,_,_,_,_,_,_] := hM.pick [0,1,2,3,4,5,6,7] rfl
           refine q_then_n ⟨_,hE.sel [1,2,4,5,6,7,8,10,11,12,13,14,15,18,28,41,43,61,77] rfl,hM⟩
          trivial
         trivial
        refine o_or rfl ?_ ?_
        ·refine s_alloc [32] hE hM zero23 rfl rfl ?_;clear hE a;intro a b14 w12 hE hM'
         clear hM;have hM := hM';clear hM'
         refine q_nil (q_nx ?_)
         refine o_cut (fun _ => True) ?_
         refine o_re ?_
         refine o_fl rfl ?_
         refine q_nil (q_nx ?_)
         refine o_fl rfl ?_
         refine q_nil (q_nx ?_)
         refine o_or rfl ?_ ?_
         ·refine s_call hE rfl Tryd.call16 (unwrap_c (kK p h.s0.2.2.1 h.s0.2.1) [115,108,111,116] 0 h.s0.2.2.2.1 h.s0.2.2.2.2 _ (hM.get 6 rfl) (hM.get 7 rfl) (kK_len ..) hk_h.s0.2.2.1 hk_h.s0.2.2.2 (by have hl_0 : (kK p h.s0.2.2.1 h.s0.2.1).length = 32 := (kK_len ..);have hl_1 : [115,108,111,116].length = 4 := (by first | (simp;done) | (simp [*];done) | (simp;omega));have hl_3d : h.s0.2.2.2.1.length = 32 := hk_h.s0.2.2.1;have hl_3t : h.s0.2.2.2.2.length = 32 := hk_h.s0.2.2.2;first | omega | assumption | (simp;done) | (simp;omega) | decide) (by have hl_0 : (kK p h.s0.2.2.1 h.s0.2.1).length = 32 := (kK_len ..);have hl_1 : [115,108,111,116].length = 4 := (by first | (simp;done) | (simp [*];done) | (simp;omega));have hl_3d : h.s0.2.2.2.1.length = 32 := hk_h.s0.2.2.1;have hl_3t : h.s0.2.2.2.2.length = 32 := hk_h.s0.2.2.2;first | omega | assumption | (simp;done) | (simp;omega) | decide)) rfl ?_
          rintro e w13 ⟨rfl,hN⟩
          refine ⟨_,rfl,hN.sta0 _,?_⟩;clear hE a;intro a hE
          replace hM : Mem _ _ w13 [_,_,_,_,_,_,_,_] := hM.call0 hN trivial;clear hN
          refine q_nil (q_nx ?_)
          refine o_re ?_
          refine o_fl rfl ?_
          refine s_move hE rfl rfl ?_;clear hE a;intro a hE
          refine s_extract hE rfl rfl rfl ?_;clear hE a;intro a hE
          refine s_extract hE rfl rfl rfl ?_;clear hE a;intro a hE
          refine q_nil (q_nx ?_)
          refine o_fl rfl ?_
          refine q_nil (q_nx ?_)
          refine o_weak (fun b => b = b14) (fun _ _ => trivial) ?_
          refine o_or rfl ?_ ?_
          ·refine s_storeSeg 0 hE rfl rfl hM rfl sz23 ((bv_length _).trans (unwK_len (k := (kK p h.s0.2.2.1 h.s0.2.1)) (l := [115,108,111,116]) (n := 0) (d := h.s0.2.2.2.1) (t := h.s0.2.2.2.2) (by have hl_std : h.s0.2.2.2.1.length = 32 := hk_h.s0.2.2.1;first | assumption | (simp;done)))) (bv_one _) rfl ((bv_length _).trans (by first | (simp;done) | (simp [*];done) | (simp;omega))) rfl (by intro X h;cases h;rfl) ?_;intro w14 hM';clear hM;have hM := hM';clear hM'
           simp only [List.set_cons_zero,List.set_cons_succ] at hM
           refine q_nil (q_nx ?_)
           refine o_cut (fun _ => True) ?_
           refine o_re ?_
           refine o_weak (fun _ => False) (fun _ _ => trivial) ?_
           refine o_leaf rfl rfl ?_
           refine s_assign hE rfl rfl ?_;clear hE a;intro a hE
           refine q_nil (q_ph (q_nil ?_))
           replace hE : Env a 112 [(1,_),(2,_),(4,_),(5,_),(6,_),(7,_),(8,_),(10,_),(11,_),(12,_),(13,_),(14,_),(15,_),(18,_),(28,_),(41,_),(43,_),(61,_),(77,_)] := hE.sel [1,2,4,5,6,7,8,10,11,12,13,14,15,18,28,41,43,61,77] rfl
           replace hM : Mem _ _ w14 [_,_,_,_,_,_,_,_] := hM.pick [0,1,2,3,4,5,6,7] rfl
           refine q_then_n ⟨_,hE.sel [1,2,4,5,6,7,8,10,11,12,13,14,15,18,28,41,43,61,77] rfl,hM⟩
          trivial
         trivial
        trivial
       clear hE hM a;rintro a w15 ⟨b14,hE,hM⟩
       refine wp_seq_k (fun K21 hK21 => ?_)
       refine wp_plain [true,true,true,true,true,true,true] rfl rfl ?_
       refine s_move hE rfl rfl ?_;clear hE a;intro a hE
       refine s_bin hE rfl rfl bin_eql rfl ?_;clear hE a;intro a hE
       replace hE := hE.cast 88 rfl (show _ = Value.bool true from (congrArg Value.bool (by decide)))
       refine s_move hE rfl rfl ?_;clear hE a;intro a hE
       refine g_yes hE rfl rfl ?_
       refine s_move hE rfl rfl ?_;clear hE a;intro a hE
       refine g_yes hE rfl rfl ?_
       refine s_move hE rfl rfl ?_;clear hE a;intro a hE
       refine g_yes hE rfl rfl ?_
       refine s_bin hE rfl rfl bin_eql rfl ?_;clear hE a;intro a hE
       refine s_pickt hE rfl rfl rfl ?_;clear hE a;intro a hE
       refine q_nil ?_
       replace hE : Env a 112 [(1,_),(2,_),(4,_),(5,_),(6,_),(7,_),(8,_),(10,_),(11,_),(12,_),(13,_),(14,_),(15,_),(18,_),(28,_),(41,_),(43,_),(61,_),(77,_),(93,_)] := hE.sel [1,2,4,5,6,7,8,10,11,12,13,14,15,18,28,41,43,61,77,93] rfl
       refine hK21 _ _ ?_
       refine hE.split 93 rfl (fun hb93 hE' => ?_) (fun hb93 hE' => ?_)
       ·replace hE := hE';clear hE'
        replace hb93 := of_decide_eq_true hb93
        replace hb93 : 0 = k := by omega
        have hqe : opS p h.s0 = true := (by have hk2 := hqk;rw [show k = 0 by omega] at hk2;exact hk2)
        have hke : k = 0 := by omega
        refine wp_cond_true (hE.eval rfl) ?_
        refine wp_seq_k (fun K22 hK22 => ?_)
        refine wp_plain [true,true,true,true,true,true,true] rfl rfl ?_
        refine s_move hE rfl rfl ?_;clear hE a;intro a hE
        refine s_bin hE rfl rfl bin_neq rfl ?_;clear hE a;intro a hE
        refine s_move hE rfl rfl ?_;clear hE a;intro a hE
        replace hE := hE.cast 96 rfl (show _ = Value.bool false from (congrArg Value.bool (by obtain ⟨hw1,hw2⟩ := op_unw hqe;simp only [slotT] at hw1 hw2;rw [hw1];rfl)))
        refine g_yes hE rfl rfl ?_
        refine s_loadN hE rfl (hM.get 0 rfl) row23 rfl (by intro X h;cases h) rfl ?_;clear hE a;intro a hE
        refine g_yes hE rfl rfl ?_
        refine s_loadN hE rfl (hM.get 3 rfl) row23 rfl (by intro X h;cases h) rfl ?_;clear hE a;intro a hE
        refine g_yes hE rfl rfl ?_
        refine s_bin hE rfl rfl (eqa23 (unwK_len (k := (kK p h.s0.2.2.1 h.s0.2.1)) (l := [115,108,111,116]) (n := 0) (d := h.s0.2.2.2.1) (t := h.s0.2.2.2.2) (by have hl_std : h.s0.2.2.2.1.length = 32 := hk_h.s0.2.2.1;first | assumption | (simp;done))) (arS_len (getS_ok hk_h k))).2 rfl ?_;clear hE a;intro a hE
        refine s_pickf hE rfl rfl rfl ?_;clear hE a;intro a hE
        refine q_nil ?_
        replace hE : Env a 112 [(1,_),(2,_),(4,_),(5,_),(6,_),(7,_),(8,_),(10,_),(11,_),(12,_),(13,_),(14,_),(15,_),(18,_),(28,_),(41,_),(43,_),(61,_),(77,_),(93,_),(100,_)] := hE.sel [1,2,4,5,6,7,8,10,11,12,13,14,15,18,28,41,43,61,77,93,100] rfl
        refine hK22 _ _ ?_
        replace hE := hE.cast 100 rfl (show _ = Value.bool false from (congrArg Value.bool (by obtain ⟨hw1,hw2⟩ := op_unw hqe;simp only [slotT] at hw1 hw2;rw [hw2,hke];simp [getS])))
        refine wp_cond_false (hE.eval rfl) ?_
        refine wp_skip ?_
        refine q_block_n ?_
        refine hK14 _ _ ?_
        refine wp_plain [true,true,true] rfl rfl ?_
        refine s_move hE rfl rfl ?_;clear hE a;intro a hE
        refine s_bin hE rfl rfl (show Bin _ _ _ _ _ (.int .i64 1) from bin_add (by rw [wrap_i64 (by omega) (by omega)];omega)) rfl ?_;clear hE a;intro a hE
        refine s_assign hE rfl rfl ?_;clear hE a;intro a hE
        refine q_nil ?_
        replace hE : Env a 112 [(1,_),(2,_),(4,_),(5,_),(6,_),(7,_),(8,_),(10,_),(11,_),(12,_),(13,_),(14,_),(15,_),(18,_),(28,_),(41,_),(43,_),(61,_),(77,_),(93,_),(100,_)] := hE.sel [1,2,4,5,6,7,8,10,11,12,13,14,15,18,28,41,43,61,77,93,100] rfl
        replace hM : Mem _ _ w15 [_,_,_,_,_] := hM.pick [3,4,5,6,7] rfl
        refine q_then_n ⟨trivial,hE.sel [1,2,4,5,6,7,8,10,18,28,41] rfl,hM⟩
       ·replace hE := hE';clear hE'
        replace hb93 := of_decide_eq_false hb93
        replace hb93 : ¬ (0 = k) := by omega
        have hqo : opS p h.s0 = false := hqb 0 (by omega)
        refine wp_cond_false (hE.eval rfl) ?_
        refine wp_seq_k (fun K22 hK22 => ?_)
        refine wp_plain [true,true] rfl rfl ?_
        refine s_move hE rfl rfl ?_;clear hE a;intro a hE
        refine s_bin hE rfl rfl bin_eql rfl ?_;clear hE a;intro a hE
        refine q_nil ?_
        replace hE : Env a 112 [(1,_),(2,_),(4,_),(5,_),(6,_),(7,_),(8,_),(10,_),(11,_),(12,_),(13,_),(14,_),(15,_),(18,_),(28,_),(41,_),(43,_),(61,_),(77,_),(93,_),(102,_)] := hE.sel [1,2,4,5,6,7,8,10,11,12,13,14,15,18,28,41,43,61,77,93,102] rfl
        refine hK22 _ _ ?_
        replace hE := hE.cast 102 rfl (show _ = Value.bool false from (congrArg Value.bool (decide_eq_false (by have hw1 := op_ne hu1 hqo;simp only [slotT] at hw1;omega))))
        refine wp_cond_false (hE.eval rfl) ?_
        refine wp_skip ?_
        refine q_block_n ?_
        refine hK14 _ _ ?_
        refine wp_plain [true,true,true] rfl rfl ?_
        refine s_move hE rfl rfl ?_;clear hE a;intro a hE
        refine s_bin hE rfl rfl (show Bin _ _ _ _ _ (.int .i64 1) from bin_add (by rw [wrap_i64 (by omega) (by omega)];omega)) rfl ?_;clear hE a;intro a hE
        refine s_assign hE rfl rfl ?_;clear hE a;intro a hE
        refine q_nil ?_
        replace hE : Env a 112 [(1,_),(2,_),(4,_),(5,_),(6,_),(7,_),(8,_),(10,_),(11,_),(12,_),(13,_),(14,_),(15,_),(18,_),(28,_),(41,_),(43,_),(61,_),(77,_),(93,_),(102,_)] := hE.sel [1,2,4,5,6,7,8,10,11,12,13,14,15,18,28,41,43,61,77,93,102] rfl
        replace hM : Mem _ _ w15 [_,_,_,_,_] := hM.pick [3,4,5,6,7] rfl
        refine q_then_n ⟨trivial,hE.sel [1,2,4,5,6,7,8,10,18,28,41] rfl,hM⟩
    clear hE hM a;rintro a w7 ⟨hJ10_0,hE,hM⟩
    refine c_roundsJ (fun a w' => True ∧ Env a 112 [(1,.string (str p)),(2,.pointer (some ⟨b2,0,none⟩)),(4,.bool false),(5,.pointer (some ⟨b5,0,none⟩)),(6,.int .i64 ((k : Nat) : Int)),(7,.int .i64 0),(8,v37),(10,.int .i64 2),(18,.bool false),(28,.bool false),(41,.bool false)] ∧ Mem w [] w' [blk b5 [bv (arS p (getS h k))] [32] 23,own v37 1 (phrZ p).length (bv (phrZ p)),blk b2 [[.int .i64 h.m],[.int .i64 h.r],[.bool h.v0.1],[.int .u64 ((h.v0.2.1 : Nat) : Int)],bv h.v0.2.2.1,bv h.v0.2.2.2,[.bool h.v1.1],[.int .u64 ((h.v1.2.1 : Nat) : Int)],bv h.v1.2.2.1,bv h.v1.2.2.2,[.bool h.s0.1],[.int .i64 h.s0.2.1],bv h.s0.2.2.1,bv h.s0.2.2.2.1,bv h.s0.2.2.2.2,[.bool h.s1.1],[.int .i64 h.s1.2.1],bv h.s1.2.2.1,bv h.s1.2.2.2.1,bv h.s1.2.2.2.2,[.bool h.s2.1],[.int .i64 h.s2.2.1],bv h.s2.2.2.1,bv h.s2.2.2.2.1,bv h.s2.2.2.2.2,[.bool h.s3.1],[.int .i64 h.s3.2.1],bv h.s3.2.2.1,bv h.s3.2.2.2.1,bv h.s3.2.2.2.2] [1,1,1,1,32,32,1,1,32,32,1,1,16,32,32,1,1,16,32,32,1,1,16,32,32,1,1,16,32,32] 62,glb 1,tabP]) ?_ ?_
    ·skip
     refine wp_seq_k (fun K12 hK12 => ?_)
     refine wp_seq_k (fun K13 hK13 => ?_)
     refine wp_plain [true,true] rfl rfl ?_
     refine s_move hE rfl rfl ?_;clear hE a;intro a hE
     refine s_bin hE rfl rfl bin_lss rfl ?_;clear hE a;intro a hE
     replace hE := hE.cast 43 rfl (show _ = Value.bool true from (congrArg Value.bool (by decide)))
     refine q_nil ?_
     replace hE : Env a 112 [(1,_),(2,_),(4,_),(5,_),(6,_),(7,_),(8,_),(10,_),(18,_),(28,_),(41,_),(43,_)] := hE.sel [1,2,4,5,6,7,8,10,18,28,41,43] rfl
     refine hK13 _ _ ?_
     refine wp_cond_true (hE.eval rfl) ?_
     refine wp_skip ?_
     refine hK12 _ _ ?_
     refine wp_seq_k (fun K14 hK14 => ?_)
     refine wp_block ?_
     refine wp_seq_k (fun K15 hK15 => ?_)
     refine wp_plain [true,true,true,true,false,false] rfl rfl ?_
     refine s_move hE rfl rfl ?_;clear hE a;intro a hE
     refine s_fieldAddr hE rfl fo62_2 rfl ?_;clear hE a;intro a hE
     refine s_indexArr (j := 1) hE rfl rfl arr60 rfl (by decide) rfl ?_;clear hE a;intro a hE
     refine s_loadN hE rfl (hM.get 2 rfl) row59 rfl (by intro X h;cases h) rfl ?_;clear hE a;intro a hE
     replace hE := hE.cast 49 rfl (show _ = Value.agg ([[.bool h.s1.1],[.int .i64 h.s1.2.1],bv h.s1.2.2.1,bv h.s1.2.2.2.1,bv h.s1.2.2.2.2] : List (List Value)).flatten.toArray from (by first | rfl | simp only [List.flatten_cons,List.flatten_nil,List.append_nil,List.append_assoc]))
     refine s_alloc [1,1,16,32,32] hE hM zeroL59 rfl rfl ?_;clear hE a;intro a b11 w8 hE hM'
     clear hM;have hM := hM';clear hM'
     have hsl534_2 : h.s1.2.2.1.length = 16 := hk_h.s1.2.1
     have hsl534_3 : h.s1.2.2.2.1.length = 32 := hk_h.s1.2.2.1
     have hsl534_4 : h.s1.2.2.2.2.length = 32 := hk_h.s1.2.2.2
     refine s_storeSegs 0 5 (vss := [[.bool h.s1.1],[.int .i64 h.s1.2.1],bv h.s1.2.2.1,bv h.s1.2.2.2.1,bv h.s1.2.2.2.2]) hE rfl rfl hM rfl sz59 (by simp only [List.take_succ_cons,List.take_zero,List.drop_zero,List.drop_succ_cons];simp only [List.map_cons,List.map_nil,bv_length,List.length_cons,List.length_nil,List.length_replicate,hsl534_2,hsl534_3,hsl534_4]) (by decide) rfl (one_fl ⟨one1 rfl,one1 rfl,bv_one _,bv_one _,bv_one _,trivial⟩) rfl (by intro X h;cases h) ?_;intro w9 hM';clear hM;have hM := hM';clear hM'
     try simp only [List.take_zero,List.take_succ_cons,List.drop_zero,List.drop_succ_cons,List.take_nil,List.drop_nil,List.nil_append,List.append_nil,List.cons_append] at hM
     refine q_nil ?_
     replace hE : Env a 112 [(1,_),(2,_),(4,_),(5,_),(6,_),(7,_),(8,_),(10,_),(11,_),(18,_),(28,_),(41,_),(43,_)] := hE.sel [1,2,4,5,6,7,8,10,11,18,28,41,43] rfl
     refine hK15 _ _ ?_
     refine wp_seq_k (fun K16 hK16 => ?_)
     refine wp_seq_k (fun K17 hK17 => ?_)
     refine wp_plain [true,true,true,true,true,true,true,true,true,true,true,true] rfl rfl ?_
     refine s_fieldAddr hE rfl fo59_0 rfl ?_;clear hE a;intro a hE
     refine s_load1 hE rfl (hM.get 0 rfl) rfl one4 (by intro X h;cases h) rfl ?_;clear hE a;intro a hE
     refine s_not hE rfl rfl ?_;clear hE a;intro a hE
     refine s_move hE rfl rfl ?_;clear hE a;intro a hE
     refine hE.split 53 rfl (fun hb53 hE' => ?_) (fun hb53 hE' => ?_)
     ·replace hE := hE';clear hE'
      replace hb53 := not_true hb53
      refine g_no (b := true) hE rfl rfl rfl ?_;clear hE a;intro a hE
      refine g_no (b := true) hE rfl rfl rfl ?_;clear hE a;intro a hE
      refine g_no (b := true) hE rfl rfl rfl ?_;clear hE a;intro a hE
      refine g_und hE rfl rfl rfl ?_;clear hE a;intro a hE
      refine g_und hE rfl rfl rfl ?_;clear hE a;intro a hE
      refine g_und hE rfl rfl rfl ?_;clear hE a;intro a hE
      refine g_no (b := true) hE rfl rfl rfl ?_;clear hE a;intro a hE
      refine s_pickt hE rfl rfl rfl ?_;clear hE a;intro a hE
      refine q_nil ?_
      replace hE : Env a 112 [(1,_),(2,_),(4,_),(5,_),(6,_),(7,_),(8,_),(10,_),(11,_),(18,_),(28,_),(41,_),(43,_),(61,_)] := hE.sel [1,2,4,5,6,7,8,10,11,18,28,41,43,61] rfl
      refine hK17 _ _ ?_
      refine wp_cond_true (hE.eval rfl) ?_
      refine wp_exit ?_
      refine q_then_e ?_
      refine q_block_x ?_
      refine hK14 _ _ ?_
      refine wp_plain [true,true,true] rfl rfl ?_
      refine s_move hE rfl rfl ?_;clear hE a;intro a hE
      refine s_bin hE rfl rfl (show Bin _ _ _ _ _ (.int .i64 2) from bin_add (by rw [wrap_i64 (by omega) (by omega)];omega)) rfl ?_;clear hE a;intro a hE
      refine s_assign hE rfl rfl ?_;clear hE a;intro a hE
      refine q_nil ?_
      replace hE : Env a 112 [(1,_),(2,_),(4,_),(5,_),(6,_),(7,_),(8,_),(10,_),(11,_),(18,_),(28,_),(41,_),(43,_),(61,_)] := hE.sel [1,2,4,5,6,7,8,10,11,18,28,41,43,61] rfl
      replace hM : Mem _ _ w9 [_,_,_,_,_] := hM.pick [1,2,3,4,5] rfl
      refine q_then_n ⟨trivial,hE.sel [1,2,4,5,6,7,8,10,18,28,41] rfl,hM⟩
     ·replace hE := hE';clear hE'
      replace hb53 := not_false' hb53
      have hu1 : h.s1.1 = true := by simpa using hb53
      have hor := hc1 hu1
      refine g_yes hE rfl rfl ?_
      refine s_move hE rfl rfl ?_;clear hE a;intro a hE
      refine g_yes hE rfl rfl ?_
      refine s_bin hE rfl rfl bin_eql rfl ?_;clear hE a;intro a hE
      replace hE := hE.cast 55 rfl (show _ = Value.bool true from (congrArg Value.bool (by decide)))
      refine g_yes hE rfl rfl ?_
      refine s_move hE rfl rfl ?_;clear hE a;intro a hE
      refine g_yes hE rfl rfl ?_
      refine s_move hE rfl rfl ?_;clear hE a;intro a hE
      refine g_yes hE rfl rfl ?_
      refine s_move hE rfl rfl ?_;clear hE a;intro a hE
      refine g_yes hE rfl rfl ?_
      refine s_bin hE rfl rfl bin_gtr rfl ?_;clear hE a;intro a hE
      refine g_yes hE rfl rfl ?_
      refine s_pickt hE rfl rfl rfl ?_;clear hE a;intro a hE
      refine s_pickf hE rfl rfl rfl ?_;clear hE a;intro a hE
      refine q_nil ?_
      replace hE : Env a 112 [(1,_),(2,_),(4,_),(5,_),(6,_),(7,_),(8,_),(10,_),(11,_),(18,_),(28,_),(41,_),(43,_),(61,_)] := hE.sel [1,2,4,5,6,7,8,10,11,18,28,41,43,61] rfl
      refine hK17 _ _ ?_
      refine hE.split 61 rfl (fun hb61 hE' => ?_) (fun hb61 hE' => ?_)
      ·replace hE := hE';clear hE'
       replace hb61 := of_decide_eq_true hb61
       replace hb61 : k < 1 := by omega
       refine wp_cond_true (hE.eval rfl) ?_
       refine wp_exit ?_
       refine q_then_e ?_
       refine q_block_x ?_
       refine hK14 _ _ ?_
       refine wp_plain [true,true,true] rfl rfl ?_
       refine s_move hE rfl rfl ?_;clear hE a;intro a hE
       refine s_bin hE rfl rfl (show Bin _ _ _ _ _ (.int .i64 2) from bin_add (by rw [wrap_i64 (by omega) (by omega)];omega)) rfl ?_;clear hE a;intro a hE
       refine s_assign hE rfl rfl ?_;clear hE a;intro a hE
       refine q_nil ?_
       replace hE : Env a 112 [(1,_),(2,_),(4,_),(5,_),(6,_),(7,_),(8,_),(10,_),(11,_),(18,_),(28,_),(41,_),(43,_),(61,_)] := hE.sel [1,2,4,5,6,7,8,10,11,18,28,41,43,61] rfl
       replace hM : Mem _ _ w9 [_,_,_,_,_] := hM.pick [1,2,3,4,5] rfl
       refine q_then_n ⟨trivial,hE.sel [1,2,4,5,6,7,8,10,18,28,41] rfl,hM⟩
      ·replace hE := hE';clear hE'
       replace hb61 := of_decide_eq_false hb61
       replace hb61 : ¬ (k < 1) := by omega
       refine wp_cond_false (hE.eval rfl) ?_
       refine wp_skip ?_
       refine hK16 _ _ ?_
       refine wp_seq_k (fun K18 hK18 => ?_)
       refine wp_drawnM hM (by kernel_rfl) (fun _ => False) [(0,true),(1,true),(2,true),(3,true),(4,true),(5,false),(6,true),(7,true),(8,true),(9,true),(10,true)] [(5,[(6,5),(7,6),(8,6),(9,5),(10,5)])] (by kernel_rfl) rfl ?_
       intro w10 hM' hww10;clear hM;have hM := hM';clear hM'
       refine s_move hE rfl rfl ?_;clear hE a;intro a hE
       refine s_fieldAddr hE rfl fo59_2 rfl ?_;clear hE a;intro a hE
       refine s_sliceArr (l := 0) (h := 16) (mx' := 16) hE rfl arr57 rfl rfl rfl (by simp) (by omega) (by omega) (by omega) rfl ?_;clear hE a;intro a hE
       replace hE := hE.cast 65 rfl (show _ = Value.slice (some ⟨b11,2,none⟩) 16 16 from rfl)
       refine s_fieldAddr hE rfl fo59_1 rfl ?_;clear hE a;intro a hE
       refine s_load1 hE rfl (hM.get 0 rfl) rfl one3 (by intro X h;cases h;simp) rfl ?_;clear hE a;intro a hE
       obtain ⟨cq2,hq2⟩ := own_rd (hM.get 2 rfl)
       refine s_call hE rfl Tryd.call31 (pkey_a _ _ (phrZ p) h.s1.2.2.1 _ _ h.s1.2.1 _ (hM.get 4 rfl) hq2 (rd_seg8 (N := 16) (hM.get 0 rfl) rfl hk_h.s1.2.1) (by have := phrZ_len p;omega) (by have hl_q : h.s1.2.2.1.length = 16 := hk_h.s1.2.1;omega)) rfl ?_
       rintro e w11 ⟨v68,rfl,hN⟩
       refine ⟨_,rfl,hN.sta0 _,?_⟩;clear hE a;intro a hE
       replace hM : Mem _ _ w11 [_,_,_,_,_,_,_] := hM.call0 hN ⟨rfl,trivial⟩;clear hN
       replace hM := Mem.ownWB (p := keyZ (phrZ p) h.s1.2.2.1 h.s1.2.1) (q := kK p h.s1.2.2.1 h.s1.2.1) hM (by simp [keyZ,phrZ,kK,hop,hor])
       refine s_move hE rfl rfl ?_;clear hE a;intro a hE
       refine s_extract hE rfl rfl rfl ?_;clear hE a;intro a hE
       refine s_extract hE rfl rfl rfl ?_;clear hE a;intro a hE
       refine s_assign hE rfl rfl ?_;clear hE a;intro a hE
       refine s_assign hE rfl rfl ?_;clear hE a;intro a hE
       refine q_nil ?_
       replace hE : Env a 112 [(1,_),(2,_),(4,_),(5,_),(6,_),(7,_),(8,_),(10,_),(11,_),(12,_),(13,_),(18,_),(28,_),(41,_),(43,_),(61,_)] := hE.sel [1,2,4,5,6,7,8,10,11,12,13,18,28,41,43,61] rfl
       refine hK18 _ _ ?_
       refine wp_seq_k (fun K19 hK19 => ?_)
       refine wp_seq_k (fun K20 hK20 => ?_)
       refine wp_plain [true,true,true,true,true,true,true] rfl rfl ?_
       refine s_move hE rfl rfl ?_;clear hE a;intro a hE
       refine s_bin hE rfl rfl bin_neq rfl ?_;clear hE a;intro a hE
       refine s_move hE rfl rfl ?_;clear hE a;intro a hE
       replace hE := hE.cast 73 rfl (show _ = Value.bool false from (congrArg Value.bool (by rw [roundE_zero.2 hor];rfl)))
       refine g_yes hE rfl rfl ?_
       refine s_move hE rfl rfl ?_;clear hE a;intro a hE
       refine g_yes hE rfl rfl ?_
       refine s_len hE rfl Tryd.underlying42 (ownW_slice (hM.get 0 rfl)) rfl ?_;clear hE a;intro a hE
       replace hE := hE.cast 75 rfl (show _ = Value.int .i64 ((32 : Nat) : Int) from (congrArg (fun n : Nat => Value.int .i64 (n : Int)) (kK_len ..)))
       refine g_yes hE rfl rfl ?_
       refine s_bin hE rfl rfl bin_neq rfl ?_;clear hE a;intro a hE
       replace hE := hE.cast 76 rfl (show _ = Value.bool false from (congrArg Value.bool (by decide)))
       refine s_pickf hE rfl rfl rfl ?_;clear hE a;intro a hE
       refine q_nil ?_
       replace hE : Env a 112 [(1,_),(2,_),(4,_),(5,_),(6,_),(7,_),(8,_),(10,_),(11,_),(12,_),(13,_),(18,_),(28,_),(41,_),(43,_),(61,_),(77,_)] := hE.sel [1,2,4,5,6,7,8,10,11,12,13,18,28,41,43,61,77] rfl
       refine hK20 _ _ ?_
       refine wp_cond_false (hE.eval rfl) ?_
       refine wp_skip ?_
       refine hK19 _ _ ?_
       refine wp_seq_j (fun a w' => ∃ (b14 : Nat),Env a 112 [(1,.string (str p)),(2,.pointer (some ⟨b2,0,none⟩)),(4,.bool false),(5,.pointer (some ⟨b5,0,none⟩)),(6,.int .i64 ((k : Nat) : Int)),(7,.int .i64 0),(8,v37),(10,.int .i64 1),(11,.pointer (some ⟨b11,0,none⟩)),(12,v68),(13,.int .i64 ((roundE h.s1.2.1 : Nat) : Int)),(14,.pointer (some ⟨b14,0,none⟩)),(15,.int .i64 ((unwE (kK p h.s1.2.2.1 h.s1.2.1) [115,108,111,116] 0 h.s1.2.2.2.1 h.s1.2.2.2.2 : Nat) : Int)),(18,.bool false),(28,.bool false),(41,.bool false),(43,.bool true),(61,.bool false),(77,.bool false)] ∧ Mem w [] w' [blk b14 [bv (unwK (kK p h.s1.2.2.1 h.s1.2.1) [115,108,111,116] 0 h.s1.2.2.2.1 h.s1.2.2.2.2)] [32] 23,ownW v68 1 (kK p h.s1.2.2.1 h.s1.2.1).length (bv (kK p h.s1.2.2.1 h.s1.2.1)),blk b11 [[.bool h.s1.1],[.int .i64 h.s1.2.1],bv h.s1.2.2.1,bv h.s1.2.2.2.1,bv h.s1.2.2.2.2] [1,1,16,32,32] 59,blk b5 [bv (arS p (getS h k))] [32] 23,own v37 1 (phrZ p).length (bv (phrZ p)),blk b2 [[.int .i64 h.m],[.int .i64 h.r],[.bool h.v0.1],[.int .u64 ((h.v0.2.1 : Nat) : Int)],bv h.v0.2.2.1,bv h.v0.2.2.2,[.bool h.v1.1],[.int .u64 ((h.v1.2.1 : Nat) : Int)],bv h.v1.2.2.1,bv h.v1.2.2.2,[.bool h.s0.1],[.int .i64 h.s0.2.1],bv h.s0.2.2.1,bv h.s0.2.2.2.1,bv h.s0.2.2.2.2,[.bool h.s1.1],[.int .i64 h.s1.2.1],bv h.s1.2.2.1,bv h.s1.2.2.2.1,bv h.s1.2.2.2.2,[.bool h.s2.1],[.int .i64 h.s2.2.1],bv h.s2.2.2.1,bv h.s2.2.2.2.1,bv h.s2.2.2.2.2,[.bool h.s3.1],[.int .i64 h.s3.2.1],bv h.s3.2.2.1,bv h.s3.2.2.2.1,bv h.s3.2.2.2.2] [1,1,1,1,32,32,1,1,32,32,1,1,16,32,32,1,1,16,32,32,1,1,16,32,32,1,1,16,32,32] 62,glb 1,tabP]) ?_ ?_
       ·refine wp_treeM hM (by kernel_rfl) (fun _ => True) (fun _ => True) (.re [(0,true),(1,true),(3,true),(2,true),(4,true),(5,false),(6,true),(7,true),(8,true),(9,false),(10,false),(11,true)] (.fl 3 (.weak (.fl 2 (.or 5 (.re [(6,true),(7,true),(8,true),(9,false),(10,false),(11,true)] (.fl 3 (.fl 0 (.or 9 (.re [(10,false),(11,true)] (.fl 0 (.fl 0 (.or 10 (.cut (.re [(11,true)] (.weak (.leaf 1)))) (.stop))))) (.stop))))) (.or 9 (.cut (.re [(5,false),(6,true),(7,true),(8,true),(10,false),(11,true)] (.fl 0 (.fl 0 (.or 5 (.re [(6,true),(7,true),(8,true),(10,false),(11,true)] (.fl 3 (.fl 0 (.weak (.or 10 (.cut (.re [(11,true)] (.weak (.leaf 1)))) (.stop)))))) (.stop)))))) (.stop))))))) [(0,true),(1,true),(3,true),(2,true),(4,true),(5,false),(6,true),(7,true),(8,true),(9,false),(10,false),(11,true)] [(1,[(2,1),(5,2),(6,5),(7,6),(8,6),(10,1),(11,1)]),(2,[(5,2),(6,5),(7,6),(8,6),(10,2),(11,2)]),(3,[(4,3),(5,4),(6,5),(7,6),(8,6),(10,3),(11,3)]),(4,[(5,4),(6,5),(7,6),(8,6),(10,4),(11,4)]),(5,[(6,5),(7,6),(8,6),(10,5),(11,5)]),(7,[(10,7),(11,7)]),(8,[(11,8)]),(9,[(10,9),(11,9)]),(10,[(11,10)])] (by kernel_rfl) ?_
        intro w12 hM' hww12;clear hM;have hM := hM';clear hM'
        refine o_re ?_
        refine o_fl rfl ?_
        refine s_move hE rfl rfl ?_;clear hE a;intro a hE
        refine s_toArrW hE rfl (hM.get 0 rfl) rfl (kK_len ..) (by decide) Tryd.underlying23 rfl ?_;clear hE a;intro a p80 hE hc80 hv80
        refine s_fieldAddr hE rfl fo59_3 rfl ?_;clear hE a;intro a hE
        refine q_nil (q_nx ?_)
        refine o_weak (fun b => b ≠ b11 ∧ b ∉ valBlocks v68) (fun _ _ => trivial) ?_
        refine o_fl rfl ?_
        refine s_loadAtN hE rfl hc80 (by rw [bv_length,kK_len];exact row23) (by intro X h;cases h;exact fun b hb hx => hx.2 (hv80 b hb)) rfl ?_;clear hE a;intro a hE
        refine s_loadN hE rfl (hM.get 1 rfl) row29 rfl (by intro X h;cases h;simp) rfl ?_;clear hE a;intro a hE
        replace hE := hE.cast 83 rfl (show _ = Value.agg ([bv h.s1.2.2.2.1,bv h.s1.2.2.2.2] : List (List Value)).flatten.toArray from (by first | rfl | simp only [List.flatten_cons,List.flatten_nil,List.append_nil,List.append_assoc]))
        refine q_nil (q_nx ?_)
        refine o_or rfl ?_ ?_
        ·refine s_call hE rfl Tryd.call16 (unwrap_c (kK p h.s1.2.2.1 h.s1.2.1) [115,108,111,116] 0 h.s1.2.2.2.1 h.s1.2.2.2.2 _ (hM.get 5 rfl) (hM.get 6 rfl) (kK_len ..) hk_h.s1.2.2.1 hk_h.s1.2.2.2 (by have hl_0 : (kK p h.s1.2.2.1 h.s1.2.1).length = 32 := (kK_len ..);have hl_1 : [115,108,111,116].length = 4 := (by first | (simp;done) | (simp [*];done) | (simp;omega));have hl_3d : h.s1.2.2.2.1.length = 32 := hk_h.s1.2.2.1;have hl_3t : h.s1.2.2.2.2.length = 32 := hk_h.s1.2.2.2;first | omega | assumption | (simp;done) | (simp;omega) | decide) (by have hl_0 : (kK p h.s1.2.2.1 h.s1.2.1).length = 32 := (kK_len ..);have hl_1 : [115,108,111,116].length = 4 := (by first | (simp;done) | (simp [*];done) | (simp;omega));have hl_3d : h.s1.2.2.2.1.length = 32 := hk_h.s1.2.2.1;have hl_3t : h.s1.2.2.2.2.length = 32 := hk_h.s1.2.2.2;first | omega | assumption | (simp;done) | (simp;omega) | decide)) rfl ?_
         rintro e w13 ⟨rfl,hN⟩
         refine ⟨_,rfl,hN.sta0 _,?_⟩;clear hE a;intro a hE
         replace hM : Mem _ _ w13 [_,_,_,_,_,_,_] := hM.call0 hN trivial;clear hN
         refine q_nil (q_nx ?_)
         refine o_re ?_
         refine o_fl rfl ?_
         refine s_move hE rfl rfl ?_;clear hE a;intro a hE
         refine s_extract hE rfl rfl rfl ?_;clear hE a;intro a hE
         refine s_extract hE rfl rfl rfl ?_;clear hE a;intro a hE
         refine q_nil (q_nx ?_)
         refine o_fl rfl ?_
         refine q_nil (q_nx ?_)
         refine o_or rfl ?_ ?_
         ·refine s_alloc [32] hE hM zero23 rfl rfl ?_;clear hE a;intro a b14 w14 hE hM'
          clear hM;have hM := hM';clear hM'
          refine q_nil (q_nx ?_)
          refine o_re ?_
          refine o_fl rfl ?_
          refine q_nil (q_nx ?_)
          refine o_fl rfl ?_
          refine q_nil (q_nx ?_)
          refine o_or rfl ?_ ?_
          ·refine s_storeSeg 0 hE rfl rfl hM rfl sz23 ((bv_length _).trans (unwK_len (k := (kK p h.s1.2.2.1 h.s1.2.1)) (l := [115,108,111,116]) (n := 0) (d := h.s1.2.2.2.1) (t := h.s1.2.2.2.2) (by have hl_std : h.s1.2.2.2.1.length = 32 := hk_h.s1.2.2.1;first | assumption | (simp;done)))) (bv_one _) rfl ((bv_length _).trans (by first | (simp;done) | (simp [*];done) | (simp;omega))) rfl (by intro X h;cases h;exact ⟨fun e => ((apart_of_get hM.apart (i := 0) (j := 2) rfl rfl (by decide)).1 _ (.head _)).1 (by rw [e];exact .head _),fun hv => ((apart_of_get hM.apart (i := 0) (j := 1) rfl rfl (by decide)).1 _ (.head _)).1 hv⟩) ?_;intro w15 hM';clear hM;have hM := hM';clear hM'
           simp only [List.set_cons_zero,List.set_cons_succ] at hM
           refine q_nil (q_nx ?_)
           refine o_cut (fun _ => True) ?_
           refine o_re ?_
           refine o_weak (fun _ => False) (fun _ _ => trivial) ?_
           refine o_leaf rfl rfl ?_
           refine s_assign hE rfl rfl ?_;clear hE a;intro a hE
           refine q_nil (q_ph (q_nil ?_))
           replace hE : Env a 112 [(1,_),(2,_),(4,_),(5,_),(6,_),(7,_),(8,_),(10,_),(11,_),(12,_),(13,_),(14,_),(15,_),(18,_),(28,_),(41,_),(43,_),(61,_),(77,_)] := hE.sel [1,2,4,5,6,7,8,10,11,12,13,14,15,18,28,41,43,61,77] rfl
           replace hM : Mem _ _ w15 [_,_,_,_,_,_,_,_] := hM.pick [0,1,2,3,4,5,6,7] rfl
           refine q_then_n ⟨_,hE.sel [1,2,4,5,6,7,8,10,11,12,13,14,15,18,28,41,43,61,77] rfl,hM⟩
          trivial
         trivial
        refine o_or rfl ?_ ?_
        ·refine s_alloc [32] hE hM zero23 rfl rfl ?_;clear hE a;intro a b14 w13 hE hM'
         clear hM;have hM := hM';clear hM'
         refine q_nil (q_nx ?_)
         refine o_cut (fun _ => True) ?_
         refine o_re ?_
         refine o_fl rfl ?_
         refine q_nil (q_nx ?_)
         refine o_fl rfl ?_
         refine q_nil (q_nx ?_)
         refine o_or rfl ?_ ?_
         ·refine s_call hE rfl Tryd.call16 (unwrap_c (kK p h.s1.2.2.1 h.s1.2.1) [115,108,111,116] 0 h.s1.2.2.2.1 h.s1.2.2.2.2 _ (hM.get 6 rfl) (hM.get 7 rfl) (kK_len ..) hk_h.s1.2.2.1 hk_h.s1.2.2.2 (by have hl_0 : (kK p h.s1.2.2.1 h.s1.2.1).length = 32 := (kK_len ..);have hl_1 : [115,108,111,116].length = 4 := (by first | (simp;done) | (simp [*];done) | (simp;omega));have hl_3d : h.s1.2.2.2.1.length = 32 := hk_h.s1.2.2.1;have hl_3t : h.s1.2.2.2.2.length = 32 := hk_h.s1.2.2.2;first | omega | assumption | (simp;done) | (simp;omega) | decide) (by have hl_0 : (kK p h.s1.2.2.1 h.s1.2.1).length = 32 := (kK_len ..);have hl_1 : [115,108,111,116].length = 4 := (by first | (simp;done) | (simp [*];done) | (simp;omega));have hl_3d : h.s1.2.2.2.1.length = 32 := hk_h.s1.2.2.1;have hl_3t : h.s1.2.2.2.2.length = 32 := hk_h.s1.2.2.2;first | omega | assumption | (simp;done) | (simp;omega) | decide)) rfl ?_
          rintro e w14 ⟨rfl,hN⟩
          refine ⟨_,rfl,hN.sta0 _,?_⟩;clear hE a;intro a hE
          replace hM : Mem _ _ w14 [_,_,_,_,_,_,_,_] := hM.call0 hN trivial;clear hN
          refine q_nil (q_nx ?_)
          refine o_re ?_
          refine o_fl rfl ?_
          refine s_move hE rfl rfl ?_;clear hE a;intro a hE
          refine s_extract hE rfl rfl rfl ?_;clear hE a;intro a hE
          refine s_extract hE rfl rfl rfl ?_;clear hE a;intro a hE
          refine q_nil (q_nx ?_)
          refine o_fl rfl ?_
          refine q_nil (q_nx ?_)
          refine o_weak (fun b => b = b14) (fun _ _ => trivial) ?_
          refine o_or rfl ?_ ?_
          ·refine s_storeSeg 0 hE rfl rfl hM rfl sz23 ((bv_length _).trans (unwK_len (k := (kK p h.s1.2.2.1 h.s1.2.1)) (l := [115,108,111,116]) (n := 0) (d := h.s1.2.2.2.1) (t := h.s1.2.2.2.2) (by have hl_std : h.s1.2.2.2.1.length = 32 := hk_h.s1.2.2.1;first | assumption | (simp;done)))) (bv_one _) rfl ((bv_length _).trans (by first | (simp;done) | (simp [*];done) | (simp;omega))) rfl (by intro X h;cases h;rfl) ?_;intro w15 hM';clear hM;have hM := hM';clear hM'
           simp only [List.set_cons_zero,List.set_cons_succ] at hM
           refine q_nil (q_nx ?_)
           refine o_cut (fun _ => True) ?_
           refine o_re ?_
           refine o_weak (fun _ => False) (fun _ _ => trivial) ?_
           refine o_leaf rfl rfl ?_
           refine s_assign hE rfl rfl ?_;clear hE a;intro a hE
           refine q_nil (q_ph (q_nil ?_))
           replace hE : Env a 112 [(1,_),(2,_),(4,_),(5,_),(6,_),(7,_),(8,_),(10,_),(11,_),(12,_),(13,_),(14,_),(15,_),(18,_),(28,_),(41,_),(43,_),(61,_),(77,_)] := hE.sel [1,2,4,5,6,7,8,10,11,12,13,14,15,18,28,41,43,61,77] rfl
           replace hM : Mem _ _ w15 [_,_,_,_,_,_,_,_] := hM.pick [0,1,2,3,4,5,6,7] rfl
           refine q_then_n ⟨_,hE.sel [1,2,4,5,6,7,8,10,11,12,13,14,15,18,28,41,43,61,77] rfl,hM⟩
          trivial
         trivial
        trivial
       clear hE hM a;rintro a w16 ⟨b14,hE,hM⟩
       refine wp_seq_k (fun K21 hK21 => ?_)
       refine wp_plain [true,true,true,true,true,true,true] rfl rfl ?_
       refine s_move hE rfl rfl ?_;clear hE a;intro a hE
       refine s_bin hE rfl rfl bin_eql rfl ?_;clear hE a;intro a hE
       replace hE := hE.cast 88 rfl (show _ = Value.bool true from (congrArg Value.bool (by decide)))
       refine s_move hE rfl rfl ?_;clear hE a;intro a hE
       refine g_yes hE rfl rfl ?_
       refine s_move hE rfl rfl ?_;clear hE a;intro a hE
       refine g_yes hE rfl rfl ?_
       refine s_move hE rfl rfl ?_;clear hE a;intro a hE
       refine g_yes hE rfl rfl ?_
       refine s_bin hE rfl rfl bin_eql rfl ?_;clear hE a;intro a hE
       refine s_pickt hE rfl rfl rfl ?_;clear hE a;intro a hE
       refine q_nil ?_
       replace hE : Env a 112 [(1,_),(2,_),(4,_),(5,_),(6,_),(7,_),(8,_),(10,_),(11,_),(12,_),(13,_),(14,_),(15,_),(18,_),(28,_),(41,_),(43,_),(61,_),(77,_),(93,_)] := hE.sel [1,2,4,5,6,7,8,10,11,12,13,14,15,18,28,41,43,61,77,93] rfl
       refine hK21 _ _ ?_
       refine hE.split 93 rfl (fun hb93 hE' => ?_) (fun hb93 hE' => ?_)
       ·replace hE := hE';clear hE'
        replace hb93 := of_decide_eq_true hb93
        replace hb93 : 1 = k := by omega
        have hqe : opS p h.s1 = true := (by have hk2 := hqk;rw [show k = 1 by omega] at hk2;exact hk2)
        have hke : k = 1 := by omega
        refine wp_cond_true (hE.eval rfl) ?_
        refine wp_seq_k (fun K22 hK22 => ?_)
        refine wp_plain [true,true,true,true,true,true,true] rfl rfl ?_
        refine s_move hE rfl rfl ?_;clear hE a;intro a hE
        refine s_bin hE rfl rfl bin_neq rfl ?_;clear hE a;intro a hE
        refine s_move hE rfl rfl ?_;clear hE a;intro a hE
        replace hE := hE.cast 96 rfl (show _ = Value.bool false from (congrArg Value.bool (by obtain ⟨hw1,hw2⟩ := op_unw hqe;simp only [slotT] at hw1 hw2;rw [hw1];rfl)))
        refine g_yes hE rfl rfl ?_
        refine s_loadN hE rfl (hM.get 0 rfl) row23 rfl (by intro X h;cases h) rfl ?_;clear hE a;intro a hE
        refine g_yes hE rfl rfl ?_
        refine s_loadN hE rfl (hM.get 3 rfl) row23 rfl (by intro X h;cases h) rfl ?_;clear hE a;intro a hE
        refine g_yes hE rfl rfl ?_
        refine s_bin hE rfl rfl (eqa23 (unwK_len (k := (kK p h.s1.2.2.1 h.s1.2.1)) (l := [115,108,111,116]) (n := 0) (d := h.s1.2.2.2.1) (t := h.s1.2.2.2.2) (by have hl_std : h.s1.2.2.2.1.length = 32 := hk_h.s1.2.2.1;first | assumption | (simp;done))) (arS_len (getS_ok hk_h k))).2 rfl ?_;clear hE a;intro a hE
        refine s_pickf hE rfl rfl rfl ?_;clear hE a;intro a hE
        refine q_nil ?_
        replace hE : Env a 112 [(1,_),(2,_),(4,_),(5,_),(6,_),(7,_),(8,_),(10,_),(11,_),(12,_),(13,_),(14,_),(15,_),(18,_),(28,_),(41,_),(43,_),(61,_),(77,_),(93,_),(100,_)] := hE.sel [1,2,4,5,6,7,8,10,11,12,13,14,15,18,28,41,43,61,77,93,100] rfl
        refine hK22 _ _ ?_
        replace hE := hE.cast 100 rfl (show _ = Value.bool false from (congrArg Value.bool (by obtain ⟨hw1,hw2⟩ := op_unw hqe;simp only [slotT] at hw1 hw2;rw [hw2,hke];simp [getS])))
        refine wp_cond_false (hE.eval rfl) ?_
        refine wp_skip ?_
        refine q_block_n ?_
        refine hK14 _ _ ?_
        refine wp_plain [true,true,true] rfl rfl ?_
        refine s_move hE rfl rfl ?_;clear hE a;intro a hE
        refine s_bin hE rfl rfl (show Bin _ _ _ _ _ (.int .i64 2) from bin_add (by rw [wrap_i64 (by omega) (by omega)];omega)) rfl ?_;clear hE a;intro a hE
        refine s_assign hE rfl rfl ?_;clear hE a;intro a hE
        refine q_nil ?_
        replace hE : Env a 112 [(1,_),(2,_),(4,_),(5,_),(6,_),(7,_),(8,_),(10,_),(11,_),(12,_),(13,_),(14,_),(15,_),(18,_),(28,_),(41,_),(43,_),(61,_),(77,_),(93,_),(100,_)] := hE.sel [1,2,4,5,6,7,8,10,11,12,13,14,15,18,28,41,43,61,77,93,100] rfl
        replace hM : Mem _ _ w16 [_,_,_,_,_] := hM.pick [3,4,5,6,7] rfl
        refine q_then_n ⟨trivial,hE.sel [1,2,4,5,6,7,8,10,18,28,41] rfl,hM⟩
       ·replace hE := hE';clear hE'
        replace hb93 := of_decide_eq_false hb93
        replace hb93 : ¬ (1 = k) := by omega
        have hqo : opS p h.s1 = false := hqb 1 (by omega)
        refine wp_cond_false (hE.eval rfl) ?_
        refine wp_seq_k (fun K22 hK22 => ?_)
        refine wp_plain [true,true] rfl rfl ?_
        refine s_move hE rfl rfl ?_;clear hE a;intro a hE
        refine s_bin hE rfl rfl bin_eql rfl ?_;clear hE a;intro a hE
        refine q_nil ?_
        replace hE : Env a 112 [(1,_),(2,_),(4,_),(5,_),(6,_),(7,_),(8,_),(10,_),(11,_),(12,_),(13,_),(14,_),(15,_),(18,_),(28,_),(41,_),(43,_),(61,_),(77,_),(93,_),(102,_)] := hE.sel [1,2,4,5,6,7,8,10,11,12,13,14,15,18,28,41,43,61,77,93,102] rfl
        refine hK22 _ _ ?_
        replace hE := hE.cast 102 rfl (show _ = Value.bool false from (congrArg Value.bool (decide_eq_false (by have hw1 := op_ne hu1 hqo;simp only [slotT] at hw1;omega))))
        refine wp_cond_false (hE.eval rfl) ?_
        refine wp_skip ?_
        refine q_block_n ?_
        refine hK14 _ _ ?_
        refine wp_plain [true,true,true] rfl rfl ?_
        refine s_move hE rfl rfl ?_;clear hE a;intro a hE
        refine s_bin hE rfl rfl (show Bin _ _ _ _ _ (.int .i64 2) from bin_add (by rw [wrap_i64 (by omega) (by omega)];omega)) rfl ?_;clear hE a;intro a hE
        refine s_assign hE rfl rfl ?_;clear hE a;intro a hE
        refine q_nil ?_
        replace hE : Env a 112 [(1,_),(2,_),(4,_),(5,_),(6,_),(7,_),(8,_),(10,_),(11,_),(12,_),(13,_),(14,_),(15,_),(18,_),(28,_),(41,_),(43,_),(61,_),(77,_),(93,_),(102,_)] := hE.sel [1,2,4,5,6,7,8,10,11,12,13,14,15,18,28,41,43,61,77,93,102] rfl
        replace hM : Mem _ _ w16 [_,_,_,_,_] := hM.pick [3,4,5,6,7] rfl
        refine q_then_n ⟨trivial,hE.sel [1,2,4,5,6,7,8,10,18,28,41] rfl,hM⟩
    clear hE hM a;rintro a w8 ⟨hJ10_1,hE,hM⟩
    refine c_roundsJ (fun a w' => True ∧ Env a 112 [(1,.string (str p)),(2,.pointer (some ⟨b2,0,none⟩)),(4,.bool false),(5,.pointer (some ⟨b5,0,none⟩)),(6,.int .i64 ((k : Nat) : Int)),(7,.int .i64 0),(8,v37),(10,.int .i64 3),(18,.bool false),(28,.bool false),(41,.bool false)] ∧ Mem w [] w' [blk b5 [bv (arS p (getS h k))] [32] 23,own v37 1 (phrZ p).length (bv (phrZ p)),blk b2 [[.int .i64 h.m],[.int .i64 h.r],[.bool h.v0.1],[.int .u64 ((h.v0.2.1 : Nat) : Int)],bv h.v0.2.2.1,bv h.v0.2.2.2,[.bool h.v1.1],[.int .u64 ((h.v1.2.1 : Nat) : Int)],bv h.v1.2.2.1,bv h.v1.2.2.2,[.bool h.s0.1],[.int .i64 h.s0.2.1],bv h.s0.2.2.1,bv h.s0.2.2.2.1,bv h.s0.2.2.2.2,[.bool h.s1.1],[.int .i64 h.s1.2.1],bv h.s1.2.2.1,bv h.s1.2.2.2.1,bv h.s1.2.2.2.2,[.bool h.s2.1],[.int .i64 h.s2.2.1],bv h.s2.2.2.1,bv h.s2.2.2.2.1,bv h.s2.2.2.2.2,[.bool h.s3.1],[.int .i64 h.s3.2.1],bv h.s3.2.2.1,bv h.s3.2.2.2.1,bv h.s3.2.2.2.2] [1,1,1,1,32,32,1,1,32,32,1,1,16,32,32,1,1,16,32,32,1,1,16,32,32,1,1,16,32,32] 62,glb 1,tabP]) ?_ ?_
    ·skip
     refine wp_seq_k (fun K12 hK12 => ?_)
     refine wp_seq_k (fun K13 hK13 => ?_)
     refine wp_plain [true,true] rfl rfl ?_
     refine s_move hE rfl rfl ?_;clear hE a;intro a hE
     refine s_bin hE rfl rfl bin_lss rfl ?_;clear hE a;intro a hE
     replace hE := hE.cast 43 rfl (show _ = Value.bool true from (congrArg Value.bool (by decide)))
     refine q_nil ?_
     replace hE : Env a 112 [(1,_),(2,_),(4,_),(5,_),(6,_),(7,_),(8,_),(10,_),(18,_),(28,_),(41,_),(43,_)] := hE.sel [1,2,4,5,6,7,8,10,18,28,41,43] rfl
     refine hK13 _ _ ?_
     refine wp_cond_true (hE.eval rfl) ?_
     refine wp_skip ?_
     refine hK12 _ _ ?_
     refine wp_seq_k (fun K14 hK14 => ?_)
     refine wp_block ?_
     refine wp_seq_k (fun K15 hK15 => ?_)
     refine wp_plain [true,true,true,true,false,false] rfl rfl ?_
     refine s_move hE rfl rfl ?_;clear hE a;intro a hE
     refine s_fieldAddr hE rfl fo62_2 rfl ?_;clear hE a;intro a hE
     refine s_indexArr (j := 2) hE rfl rfl arr60 rfl (by decide) rfl ?_;clear hE a;intro a hE
     refine s_loadN hE rfl (hM.get 2 rfl) row59 rfl (by intro X h;cases h) rfl ?_;clear hE a;intro a hE
     replace hE := hE.cast 49 rfl (show _ = Value.agg ([[.bool h.s2.1],[.int .i64 h.s2.2.1],bv h.s2.2.2.1,bv h.s2.2.2.2.1,bv h.s2.2.2.2.2] : List (List Value)).flatten.toArray from (by first | rfl | simp only [List.flatten_cons,List.flatten_nil,List.append_nil,List.append_assoc]))
     refine s_alloc [1,1,16,32,32] hE hM zeroL59 rfl rfl ?_;clear hE a;intro a b11 w9 hE hM'
     clear hM;have hM := hM';clear hM'
     have hsl865_2 : h.s2.2.2.1.length = 16 := hk_h.s2.2.1
     have hsl865_3 : h.s2.2.2.2.1.length = 32 := hk_h.s2.2.2.1
     have hsl865_4 : h.s2.2.2.2.2.length = 32 := hk_h.s2.2.2.2
     refine s_storeSegs 0 5 (vss := [[.bool h.s2.1],[.int .i64 h.s2.2.1],bv h.s2.2.2.1,bv h.s2.2.2.2.1,bv h.s2.2.2.2.2]) hE rfl rfl hM rfl sz59 (by simp only [List.take_succ_cons,List.take_zero,List.drop_zero,List.drop_succ_cons];simp only [List.map_cons,List.map_nil,bv_length,List.length_cons,List.length_nil,List.length_replicate,hsl865_2,hsl865_3,hsl865_4]) (by decide) rfl (one_fl ⟨one1 rfl,one1 rfl,bv_one _,bv_one _,bv_one _,trivial⟩) rfl (by intro X h;cases h) ?_;intro w10 hM';clear hM;have hM := hM';clear hM'
     try simp only [List.take_zero,List.take_succ_cons,List.drop_zero,List.drop_succ_cons,List.take_nil,List.drop_nil,List.nil_append,List.append_nil,List.cons_append] at hM
     refine q_nil ?_
     replace hE : Env a 112 [(1,_),(2,_),(4,_),(5,_),(6,_),(7,_),(8,_),(10,_),(11,_),(18,_),(28,_),(41,_),(43,_)] := hE.sel [1,2,4,5,6,7,8,10,11,18,28,41,43] rfl
     refine hK15 _ _ ?_
     refine wp_seq_k (fun K16 hK16 => ?_)
     refine wp_seq_k (fun K17 hK17 => ?_)
     refine wp_plain [true,true,true,true,true,true,true,true,true,true,true,true] rfl rfl ?_
     refine s_fieldAddr hE rfl fo59_0 rfl ?_;clear hE a;intro a hE
     refine s_load1 hE rfl (hM.get 0 rfl) rfl one4 (by intro X h;cases h) rfl ?_;clear hE a;intro a hE
     refine s_not hE rfl rfl ?_;clear hE a;intro a hE
     refine s_move hE rfl rfl ?_;clear hE a;intro a hE
     refine hE.split 53 rfl (fun hb53 hE' => ?_) (fun hb53 hE' => ?_)
     ·replace hE := hE';clear hE'
      replace hb53 := not_true hb53
      refine g_no (b := true) hE rfl rfl rfl ?_;clear hE a;intro a hE
      refine g_no (b := true) hE rfl rfl rfl ?_;clear hE a;intro a hE
      refine g_no (b := true) hE rfl rfl rfl ?_;clear hE a;intro a hE
      refine g_und hE rfl rfl rfl ?_;clear hE a;intro a hE
      refine g_und hE rfl rfl rfl ?_;clear hE a;intro a hE
      refine g_und hE rfl rfl rfl ?_;clear hE a;intro a hE
      refine g_no (b := true) hE rfl rfl rfl ?_;clear hE a;intro a hE
      refine s_pickt hE rfl rfl rfl ?_;clear hE a;intro a hE
      refine q_nil ?_
      replace hE : Env a 112 [(1,_),(2,_),(4,_),(5,_),(6,_),(7,_),(8,_),(10,_),(11,_),(18,_),(28,_),(41,_),(43,_),(61,_)] := hE.sel [1,2,4,5,6,7,8,10,11,18,28,41,43,61] rfl
      refine hK17 _ _ ?_
      refine wp_cond_true (hE.eval rfl) ?_
      refine wp_exit ?_
      refine q_then_e ?_
      refine q_block_x ?_
      refine hK14 _ _ ?_
      refine wp_plain [true,true,true] rfl rfl ?_
      refine s_move hE rfl rfl ?_;clear hE a;intro a hE
      refine s_bin hE rfl rfl (show Bin _ _ _ _ _ (.int .i64 3) from bin_add (by rw [wrap_i64 (by omega) (by omega)];omega)) rfl ?_;clear hE a;intro a hE
      refine s_assign hE rfl rfl ?_;clear hE a;intro a hE
      refine q_nil ?_
      replace hE : Env a 112 [(1,_),(2,_),(4,_),(5,_),(6,_),(7,_),(8,_),(10,_),(11,_),(18,_),(28,_),(41,_),(43,_),(61,_)] := hE.sel [1,2,4,5,6,7,8,10,11,18,28,41,43,61] rfl
      replace hM : Mem _ _ w10 [_,_,_,_,_] := hM.pick [1,2,3,4,5] rfl
      refine q_then_n ⟨trivial,hE.sel [1,2,4,5,6,7,8,10,18,28,41] rfl,hM⟩
     ·replace hE := hE';clear hE'
      replace hb53 := not_false' hb53
      have hu1 : h.s2.1 = true := by simpa using hb53
      have hor := hc2 hu1
      refine g_yes hE rfl rfl ?_
      refine s_move hE rfl rfl ?_;clear hE a;intro a hE
      refine g_yes hE rfl rfl ?_
      refine s_bin hE rfl rfl bin_eql rfl ?_;clear hE a;intro a hE
      replace hE := hE.cast 55 rfl (show _ = Value.bool true from (congrArg Value.bool (by decide)))
      refine g_yes hE rfl rfl ?_
      refine s_move hE rfl rfl ?_;clear hE a;intro a hE
      refine g_yes hE rfl rfl ?_
      refine s_move hE rfl rfl ?_;clear hE a;intro a hE
      refine g_yes hE rfl rfl ?_
      refine s_move hE rfl rfl ?_;clear hE a;intro a hE
      refine g_yes hE rfl rfl ?_
      refine s_bin hE rfl rfl bin_gtr rfl ?_;clear hE a;intro a hE
      refine g_yes hE rfl rfl ?_
      refine s_pickt hE rfl rfl rfl ?_;clear hE a;intro a hE
      refine s_pickf hE rfl rfl rfl ?_;clear hE a;intro a hE
      refine q_nil ?_
      replace hE : Env a 112 [(1,_),(2,_),(4,_),(5,_),(6,_),(7,_),(8,_),(10,_),(11,_),(18,_),(28,_),(41,_),(43,_),(61,_)] := hE.sel [1,2,4,5,6,7,8,10,11,18,28,41,43,61] rfl
      refine hK17 _ _ ?_
      refine hE.split 61 rfl (fun hb61 hE' => ?_) (fun hb61 hE' => ?_)
      ·replace hE := hE';clear hE'
       replace hb61 := of_decide_eq_true hb61
       replace hb61 : k < 2 := by omega
       refine wp_cond_true (hE.eval rfl) ?_
       refine wp_exit ?_
       refine q_then_e ?_
       refine q_block_x ?_
       refine hK14 _ _ ?_
       refine wp_plain [true,true,true] rfl rfl ?_
       refine s_move hE rfl rfl ?_;clear hE a;intro a hE
       refine s_bin hE rfl rfl (show Bin _ _ _ _ _ (.int .i64 3) from bin_add (by rw [wrap_i64 (by omega) (by omega)];omega)) rfl ?_;clear hE a;intro a hE
       refine s_assign hE rfl rfl ?_;clear hE a;intro a hE
       refine q_nil ?_
       replace hE : Env a 112 [(1,_),(2,_),(4,_),(5,_),(6,_),(7,_),(8,_),(10,_),(11,_),(18,_),(28,_),(41,_),(43,_),(61,_)] := hE.sel [1,2,4,5,6,7,8,10,11,18,28,41,43,61] rfl
       replace hM : Mem _ _ w10 [_,_,_,_,_] := hM.pick [1,2,3,4,5] rfl
       refine q_then_n ⟨trivial,hE.sel [1,2,4,5,6,7,8,10,18,28,41] rfl,hM⟩
      ·replace hE := hE';clear hE'
       replace hb61 := of_decide_eq_false hb61
       replace hb61 : ¬ (k < 2) := by omega
       refine wp_cond_false (hE.eval rfl) ?_
       refine wp_skip ?_
       refine hK16 _ _ ?_
       refine wp_seq_k (fun K18 hK18 => ?_)
       refine wp_drawnM hM (by kernel_rfl) (fun _ => False) [(0,true),(1,true),(2,true),(3,true),(4,true),(5,false),(6,true),(7,true),(8,true),(9,true),(10,true)] [(5,[(6,5),(7,6),(8,6),(9,5),(10,5)])] (by kernel_rfl) rfl ?_
       intro w11 hM' hww11;clear hM;have hM := hM';clear hM'
       refine s_move hE rfl rfl ?_;clear hE a;intro a hE
       refine s_fieldAddr hE rfl fo59_2 rfl ?_;clear hE a;intro a hE
       refine s_sliceArr (l := 0) (h := 16) (mx' := 16) hE rfl arr57 rfl rfl rfl (by simp) (by omega) (by omega) (by omega) rfl ?_;clear hE a;intro a hE
       replace hE := hE.cast 65 rfl (show _ = Value.slice (some ⟨b11,2,none⟩) 16 16 from rfl)
       refine s_fieldAddr hE rfl fo59_1 rfl ?_;clear hE a;intro a hE
       refine s_load1 hE rfl (hM.get 0 rfl) rfl one3 (by intro X h;cases h;simp) rfl ?_;clear hE a;intro a hE
       obtain ⟨cq3,hq3⟩ := own_rd (hM.get 2 rfl)
       refine s_call hE rfl Tryd.call31 (pkey_a _ _ (phrZ p) h.s2.2.2.1 _ _ h.s2.2.1 _ (hM.get 4 rfl) hq3 (rd_seg8 (N := 16) (hM.get 0 rfl) rfl hk_h.s2.2.1) (by have := phrZ_len p;omega) (by have hl_q : h.s2.2.2.1.length = 16 := hk_h.s2.2.1;omega)) rfl ?_
       rintro e w12 ⟨v68,rfl,hN⟩
       refine ⟨_,rfl,hN.sta0 _,?_⟩;clear hE a;intro a hE
       replace hM : Mem _ _ w12 [_,_,_,_,_,_,_] := hM.call0 hN ⟨rfl,trivial⟩;clear hN
       replace hM := Mem.ownWB (p := keyZ (phrZ p) h.s2.2.2.1 h.s2.2.1) (q := kK p h.s2.2.2.1 h.s2.2.1) hM (by simp [keyZ,phrZ,kK,hop,hor])
       refine s_move hE rfl rfl ?_;clear hE a;intro a hE
       refine s_extract hE rfl rfl rfl ?_;clear hE a;intro a hE
       refine s_extract hE rfl rfl rfl ?_;clear hE a;intro a hE
       refine s_assign hE rfl rfl ?_;clear hE a;intro a hE
       refine s_assign hE rfl rfl ?_;clear hE a;intro a hE
       refine q_nil ?_
       replace hE : Env a 112 [(1,_),(2,_),(4,_),(5,_),(6,_),(7,_),(8,_),(10,_),(11,_),(12,_),(13,_),(18,_),(28,_),(41,_),(43,_),(61,_)] := hE.sel [1,2,4,5,6,7,8,10,11,12,13,18,28,41,43,61] rfl
       refine hK18 _ _ ?_
       refine wp_seq_k (fun K19 hK19 => ?_)
       refine wp_seq_k (fun K20 hK20 => ?_)
       refine wp_plain [true,true,true,true,true,true,true] rfl rfl ?_
       refine s_move hE rfl rfl ?_;clear hE a;intro a hE
       refine s_bin hE rfl rfl bin_neq rfl ?_;clear hE a;intro a hE
       refine s_move hE rfl rfl ?_;clear hE a;intro a hE
       replace hE := hE.cast 73 rfl (show _ = Value.bool false from (congrArg Value.bool (by rw [roundE_zero.2 hor];rfl)))
       refine g_yes hE rfl rfl ?_
       refine s_move hE rfl rfl ?_;clear hE a;intro a hE
       refine g_yes hE rfl rfl ?_
       refine s_len hE rfl Tryd.underlying42 (ownW_slice (hM.get 0 rfl)) rfl ?_;clear hE a;intro a hE
       replace hE := hE.cast 75 rfl (show _ = Value.int .i64 ((32 : Nat) : Int) from (congrArg (fun n : Nat => Value.int .i64 (n : Int)) (kK_len ..)))
       refine g_yes hE rfl rfl ?_
       refine s_bin hE rfl rfl bin_neq rfl ?_;clear hE a;intro a hE
       replace hE := hE.cast 76 rfl (show _ = Value.bool false from (congrArg Value.bool (by decide)))
       refine s_pickf hE rfl rfl rfl ?_;clear hE a;intro a hE
       refine q_nil ?_
       replace hE : Env a 112 [(1,_),(2,_),(4,_),(5,_),(6,_),(7,_),(8,_),(10,_),(11,_),(12,_),(13,_),(18,_),(28,_),(41,_),(43,_),(61,_),(77,_)] := hE.sel [1,2,4,5,6,7,8,10,11,12,13,18,28,41,43,61,77] rfl
       refine hK20 _ _ ?_
       refine wp_cond_false (hE.eval rfl) ?_
       refine wp_skip ?_
       refine hK19 _ _ ?_
       refine wp_seq_j (fun a w' => ∃ (b14 : Nat),Env a 112 [(1,.string (str p)),(2,.pointer (some ⟨b2,0,none⟩)),(4,.bool false),(5,.pointer (some ⟨b5,0,none⟩)),(6,.int .i64 ((k : Nat) : Int)),(7,.int .i64 0),(8,v37),(10,.int .i64 2),(11,.pointer (some ⟨b11,0,none⟩)),(12,v68),(13,.int .i64 ((roundE h.s2.2.1 : Nat) : Int)),(14,.pointer (some ⟨b14,0,none⟩)),(15,.int .i64 ((unwE (kK p h.s2.2.2.1 h.s2.2.1) [115,108,111,116] 0 h.s2.2.2.2.1 h.s2.2.2.2.2 : Nat) : Int)),(18,.bool false),(28,.bool false),(41,.bool false),(43,.bool true),(61,.bool false),(77,.bool false)] ∧ Mem w [] w' [blk b14 [bv (unwK (kK p h.s2.2.2.1 h.s2.2.1) [115,108,111,116] 0 h.s2.2.2.2.1 h.s2.2.2.2.2)] [32] 23,ownW v68 1 (kK p h.s2.2.2.1 h.s2.2.1).length (bv (kK p h.s2.2.2.1 h.s2.2.1)),blk b11 [[.bool h.s2.1],[.int .i64 h.s2.2.1],bv h.s2.2.2.1,bv h.s2.2.2.2.1,bv h.s2.2.2.2.2] [1,1,16,32,32] 59,blk b5 [bv (arS p (getS h k))] [32] 23,own v37 1 (phrZ p).length (bv (phrZ p)),blk b2 [[.int .i64 h.m],[.int .i64 h.r],[.bool h.v0.1],[.int .u64 ((h.v0.2.1 : Nat) : Int)],bv h.v0.2.2.1,bv h.v0.2.2.2,[.bool h.v1.1],[.int .u64 ((h.v1.2.1 : Nat) : Int)],bv h.v1.2.2.1,bv h.v1.2.2.2,[.bool h.s0.1],[.int .i64 h.s0.2.1],bv h.s0.2.2.1,bv h.s0.2.2.2.1,bv h.s0.2.2.2.2,[.bool h.s1.1],[.int .i64 h.s1.2.1],bv h.s1.2.2.1,bv h.s1.2.2.2.1,bv h.s1.2.2.2.2,[.bool h.s2.1],[.int .i64 h.s2.2.1],bv h.s2.2.2.1,bv h.s2.2.2.2.1,bv h.s2.2.2.2.2,[.bool h.s3.1],[.int .i64 h.s3.2.1],bv h.s3.2.2.1,bv h.s3.2.2.2.1,bv h.s3.2.2.2.2] [1,1,1,1,32,32,1,1,32,32,1,1,16,32,32,1,1,16,32,32,1,1,16,32,32,1,1,16,32,32] 62,glb 1,tabP]) ?_ ?_
       ·refine wp_treeM hM (by kernel_rfl) (fun _ => True) (fun _ => True) (.re [(0,true),(1,true),(3,true),(2,true),(4,true),(5,false),(6,true),(7,true),(8,true),(9,false),(10,false),(11,true)] (.fl 3 (.weak (.fl 2 (.or 5 (.re [(6,true),(7,true),(8,true),(9,false),(10,false),(11,true)] (.fl 3 (.fl 0 (.or 9 (.re [(10,false),(11,true)] (.fl 0 (.fl 0 (.or 10 (.cut (.re [(11,true)] (.weak (.leaf 1)))) (.stop))))) (.stop))))) (.or 9 (.cut (.re [(5,false),(6,true),(7,true),(8,true),(10,false),(11,true)] (.fl 0 (.fl 0 (.or 5 (.re [(6,true),(7,true),(8,true),(10,false),(11,true)] (.fl 3 (.fl 0 (.weak (.or 10 (.cut (.re [(11,true)] (.weak (.leaf 1)))) (.stop)))))) (.stop)))))) (.stop))))))) [(0,true),(1,true),(3,true),(2,true),(4,true),(5,false),(6,true),(7,true),(8,true),(9,false),(10,false),(11,true)] [(1,[(2,1),(5,2),(6,5),(7,6),(8,6),(10,1),(11,1)]),(2,[(5,2),(6,5),(7,6),(8,6),(10,2),(11,2)]),(3,[(4,3),(5,4),(6,5),(7,6),(8,6),(10,3),(11,3)]),(4,[(5,4),(6,5),(7,6),(8,6),(10,4),(11,4)]),(5,[(6,5),(7,6),(8,6),(10,5),(11,5)]),(7,[(10,7),(11,7)]),(8,[(11,8)]),(9,[(10,9),(11,9)]),(10,[(11,10)])] (by kernel_rfl) ?_
        intro w13 hM' hww13;clear hM;have hM := hM';clear hM'
        refine o_re ?_
        refine o_fl rfl ?_
        refine s_move hE rfl rfl ?_;clear hE a;intro a hE
        refine s_toArrW hE rfl (hM.get 0 rfl) rfl (kK_len ..) (by decide) Tryd.underlying23 rfl ?_;clear hE a;intro a p80 hE hc80 hv80
        refine s_fieldAddr hE rfl fo59_3 rfl ?_;clear hE a;intro a hE
        refine q_nil (q_nx ?_)
        refine o_weak (fun b => b ≠ b11 ∧ b ∉ valBlocks v68) (fun _ _ => trivial) ?_
        refine o_fl rfl ?_
        refine s_loadAtN hE rfl hc80 (by rw [bv_length,kK_len];exact row23) (by intro X h;cases h;exact fun b hb hx => hx.2 (hv80 b hb)) rfl ?_;clear hE a;intro a hE
        refine s_loadN hE rfl (hM.get 1 rfl) row29 rfl (by intro X h;cases h;simp) rfl ?_;clear hE a;intro a hE
        replace hE := hE.cast 83 rfl (show _ = Value.agg ([bv h.s2.2.2.2.1,bv h.s2.2.2.2.2] : List (List Value)).flatten.toArray from (by first | rfl | simp only [List.flatten_cons,List.flatten_nil,List.append_nil,List.append_assoc]))
        refine q_nil (q_nx ?_)
        refine o_or rfl ?_ ?_
        ·refine s_call hE rfl Tryd.call16 (unwrap_c (kK p h.s2.2.2.1 h.s2.2.1) [115,108,111,116] 0 h.s2.2.2.2.1 h.s2.2.2.2.2 _ (hM.get 5 rfl) (hM.get 6 rfl) (kK_len ..) hk_h.s2.2.2.1 hk_h.s2.2.2.2 (by have hl_0 : (kK p h.s2.2.2.1 h.s2.2.1).length = 32 := (kK_len ..);have hl_1 : [115,108,111,116].length = 4 := (by first | (simp;done) | (simp [*];done) | (simp;omega));have hl_3d : h.s2.2.2.2.1.length = 32 := hk_h.s2.2.2.1;have hl_3t : h.s2.2.2.2.2.length = 32 := hk_h.s2.2.2.2;first | omega | assumption | (simp;done) | (simp;omega) | decide) (by have hl_0 : (kK p h.s2.2.2.1 h.s2.2.1).length = 32 := (kK_len ..);have hl_1 : [115,108,111,116].length = 4 := (by first | (simp;done) | (simp [*];done) | (simp;omega));have hl_3d : h.s2.2.2.2.1.length = 32 := hk_h.s2.2.2.1;have hl_3t : h.s2.2.2.2.2.length = 32 := hk_h.s2.2.2.2;first | omega | assumption | (simp;done) | (simp;omega) | decide)) rfl ?_
         rintro e w14 ⟨rfl,hN⟩
         refine ⟨_,rfl,hN.sta0 _,?_⟩;clear hE a;intro a hE
         replace hM : Mem _ _ w14 [_,_,_,_,_,_,_] := hM.call0 hN trivial;clear hN
         refine q_nil (q_nx ?_)
         refine o_re ?_
         refine o_fl rfl ?_
         refine s_move hE rfl rfl ?_;clear hE a;intro a hE
         refine s_extract hE rfl rfl rfl ?_;clear hE a;intro a hE
         refine s_extract hE rfl rfl rfl ?_;clear hE a;intro a hE
         refine q_nil (q_nx ?_)
         refine o_fl rfl ?_
         refine q_nil (q_nx ?_)
         refine o_or rfl ?_ ?_
         ·refine s_alloc [32] hE hM zero23 rfl rfl ?_;clear hE a;intro a b14 w15 hE hM'
          clear hM;have hM := hM';clear hM'
          refine q_nil (q_nx ?_)
          refine o_re ?_
          refine o_fl rfl ?_
          refine q_nil (q_nx ?_)
          refine o_fl rfl ?_
          refine q_nil (q_nx ?_)
          refine o_or rfl ?_ ?_
          ·refine s_storeSeg 0 hE rfl rfl hM rfl sz23 ((bv_length _).trans (unwK_len (k := (kK p h.s2.2.2.1 h.s2.2.1)) (l := [115,108,111,116]) (n := 0) (d := h.s2.2.2.2.1) (t := h.s2.2.2.2.2) (by have hl_std : h.s2.2.2.2.1.length = 32 := hk_h.s2.2.2.1;first | assumption | (simp;done)))) (bv_one _) rfl ((bv_length _).trans (by first | (simp;done) | (simp [*];done) | (simp;omega))) rfl (by intro X h;cases h;exact ⟨fun e => ((apart_of_get hM.apart (i := 0) (j := 2) rfl rfl (by decide)).1 _ (.head _)).1 (by rw [e];exact .head _),fun hv => ((apart_of_get hM.apart (i := 0) (j := 1) rfl rfl (by decide)).1 _ (.head _)).1 hv⟩) ?_;intro w16 hM';clear hM;have hM := hM';clear hM'
           simp only [List.set_cons_zero,List.set_cons_succ] at hM
           refine q_nil (q_nx ?_)
           refine o_cut (fun _ => True) ?_
           refine o_re ?_
           refine o_weak (fun _ => False) (fun _ _ => trivial) ?_
           refine o_leaf rfl rfl ?_
           refine s_assign hE rfl rfl ?_;clear hE a;intro a hE
           refine q_nil (q_ph (q_nil ?_))
           replace hE : Env a 112 [(1,_),(2,_),(4,_),(5,_),(6,_),(7,_),(8,_),(10,_),(11,_),(12,_),(13,_),(14,_),(15,_),(18,_),(28,_),(41,_),(43,_),(61,_),(77,_)] := hE.sel [1,2,4,5,6,7,8,10,11,12,13,14,15,18,28,41,43,61,77] rfl
           replace hM : Mem _ _ w16 [_,_,_,_,_,_,_,_] := hM.pick [0,1,2,3,4,5,6,7] rfl
           refine q_then_n ⟨_,hE.sel [1,2,4,5,6,7,8,10,11,12,13,14,15,18,28,41,43,61,77] rfl,hM⟩
          trivial
         trivial
        refine o_or rfl ?_ ?_
        ·refine s_alloc [32] hE hM zero23 rfl rfl ?_;clear hE a;intro a b14 w14 hE hM'
         clear hM;have hM := hM';clear hM'
         refine q_nil (q_nx ?_)
         refine o_cut (fun _ => True) ?_
         refine o_re ?_
         refine o_fl rfl ?_
         refine q_nil (q_nx ?_)
         refine o_fl rfl ?_
         refine q_nil (q_nx ?_)
         refine o_or rfl ?_ ?_
         ·refine s_call hE rfl Tryd.call16 (unwrap_c (kK p h.s2.2.2.1 h.s2.2.1) [115,108,111,116] 0 h.s2.2.2.2.1 h.s2.2.2.2.2 _ (hM.get 6 rfl) (hM.get 7 rfl) (kK_len ..) hk_h.s2.2.2.1 hk_h.s2.2.2.2 (by have hl_0 : (kK p h.s2.2.2.1 h.s2.2.1).length = 32 := (kK_len ..);have hl_1 : [115,108,111,116].length = 4 := (by first | (simp;done) | (simp [*];done) | (simp;omega));have hl_3d : h.s2.2.2.2.1.length = 32 := hk_h.s2.2.2.1;have hl_3t : h.s2.2.2.2.2.length = 32 := hk_h.s2.2.2.2;first | omega | assumption | (simp;done) | (simp;omega) | decide) (by have hl_0 : (kK p h.s2.2.2.1 h.s2.2.1).length = 32 := (kK_len ..);have hl_1 : [115,108,111,116].length = 4 := (by first | (simp;done) | (simp [*];done) | (simp;omega));have hl_3d : h.s2.2.2.2.1.length = 32 := hk_h.s2.2.2.1;have hl_3t : h.s2.2.2.2.2.length = 32 := hk_h.s2.2.2.2;first | omega | assumption | (simp;done) | (simp;omega) | decide)) rfl ?_
          rintro e w15 ⟨rfl,hN⟩
          refine ⟨_,rfl,hN.sta0 _,?_⟩;clear hE a;intro a hE
          replace hM : Mem _ _ w15 [_,_,_,_,_,_,_,_] := hM.call0 hN trivial;clear hN
          refine q_nil (q_nx ?_)
          refine o_re ?_
          refine o_fl rfl ?_
          refine s_move hE rfl rfl ?_;clear hE a;intro a hE
          refine s_extract hE rfl rfl rfl ?_;clear hE a;intro a hE
          refine s_extract hE rfl rfl rfl ?_;clear hE a;intro a hE
          refine q_nil (q_nx ?_)
          refine o_fl rfl ?_
          refine q_nil (q_nx ?_)
          refine o_weak (fun b => b = b14) (fun _ _ => trivial) ?_
          refine o_or rfl ?_ ?_
          ·refine s_storeSeg 0 hE rfl rfl hM rfl sz23 ((bv_length _).trans (unwK_len (k := (kK p h.s2.2.2.1 h.s2.2.1)) (l := [115,108,111,116]) (n := 0) (d := h.s2.2.2.2.1) (t := h.s2.2.2.2.2) (by have hl_std : h.s2.2.2.2.1.length = 32 := hk_h.s2.2.2.1;first | assumption | (simp;done)))) (bv_one _) rfl ((bv_length _).trans (by first | (simp;done) | (simp [*];done) | (simp;omega))) rfl (by intro X h;cases h;rfl) ?_;intro w16 hM';clear hM;have hM := hM';clear hM'
           simp only [List.set_cons_zero,List.set_cons_succ] at hM
           refine q_nil (q_nx ?_)
           refine o_cut (fun _ => True) ?_
           refine o_re ?_
           refine o_weak (fun _ => False) (fun _ _ => trivial) ?_
           refine o_leaf rfl rfl ?_
           refine s_assign hE rfl rfl ?_;clear hE a;intro a hE
           refine q_nil (q_ph (q_nil ?_))
           replace hE : Env a 112 [(1,_),(2,_),(4,_),(5,_),(6,_),(7,_),(8,_),(10,_),(11,_),(12,_),(13,_),(14,_),(15,_),(18,_),(28,_),(41,_),(43,_),(61,_),(77,_)] := hE.sel [1,2,4,5,6,7,8,10,11,12,13,14,15,18,28,41,43,61,77] rfl
           replace hM : Mem _ _ w16 [_,_,_,_,_,_,_,_] := hM.pick [0,1,2,3,4,5,6,7] rfl
           refine q_then_n ⟨_,hE.sel [1,2,4,5,6,7,8,10,11,12,13,14,15,18,28,41,43,61,77] rfl,hM⟩
          trivial
         trivial
        trivial
       clear hE hM a;rintro a w17 ⟨b14,hE,hM⟩
       refine wp_seq_k (fun K21 hK21 => ?_)
       refine wp_plain [true,true,true,true,true,true,true] rfl rfl ?_
       refine s_move hE rfl rfl ?_;clear hE a;intro a hE
       refine s_bin hE rfl rfl bin_eql rfl ?_;clear hE a;intro a hE
       replace hE := hE.cast 88 rfl (show _ = Value.bool true from (congrArg Value.bool (by decide)))
       refine s_move hE rfl rfl ?_;clear hE a;intro a hE
       refine g_yes hE rfl rfl ?_
       refine s_move hE rfl rfl ?_;clear hE a;intro a hE
       refine g_yes hE rfl rfl ?_
       refine s_move hE rfl rfl ?_;clear hE a;intro a hE
       refine g_yes hE rfl rfl ?_
       refine s_bin hE rfl rfl bin_eql rfl ?_;clear hE a;intro a hE
       refine s_pickt hE rfl rfl rfl ?_;clear hE a;intro a hE
       refine q_nil ?_
       replace hE : Env a 112 [(1,_),(2,_),(4,_),(5,_),(6,_),(7,_),(8,_),(10,_),(11,_),(12,_),(13,_),(14,_),(15,_),(18,_),(28,_),(41,_),(43,_),(61,_),(77,_),(93,_)] := hE.sel [1,2,4,5,6,7,8,10,11,12,13,14,15,18,28,41,43,61,77,93] rfl
       refine hK21 _ _ ?_
       refine hE.split 93 rfl (fun hb93 hE' => ?_) (fun hb93 hE' => ?_)
       ·replace hE := hE';clear hE'
        replace hb93 := of_decide_eq_true hb93
        replace hb93 : 2 = k := by omega
        have hqe : opS p h.s2 = true := (by have hk2 := hqk;rw [show k = 2 by omega] at hk2;exact hk2)
        have hke : k = 2 := by omega
        refine wp_cond_true (hE.eval rfl) ?_
        refine wp_seq_k (fun K22 hK22 => ?_)
        refine wp_plain [true,true,true,true,true,true,true] rfl rfl ?_
        refine s_move hE rfl rfl ?_;clear hE a;intro a hE
        refine s_bin hE rfl rfl bin_neq rfl ?_;clear hE a;intro a hE
        refine s_move hE rfl rfl ?_;clear hE a;intro a hE
        replace hE := hE.cast 96 rfl (show _ = Value.bool false from (congrArg Value.bool (by obtain ⟨hw1,hw2⟩ := op_unw hqe;simp only [slotT] at hw1 hw2;rw [hw1];rfl)))
        refine g_yes hE rfl rfl ?_
        refine s_loadN hE rfl (hM.get 0 rfl) row23 rfl (by intro X h;cases h) rfl ?_;clear hE a;intro a hE
        refine g_yes hE rfl rfl ?_
        refine s_loadN hE rfl (hM.get 3 rfl) row23 rfl (by intro X h;cases h) rfl ?_;clear hE a;intro a hE
        refine g_yes hE rfl rfl ?_
        refine s_bin hE rfl rfl (eqa23 (unwK_len (k := (kK p h.s2.2.2.1 h.s2.2.1)) (l := [115,108,111,116]) (n := 0) (d := h.s2.2.2.2.1) (t := h.s2.2.2.2.2) (by have hl_std : h.s2.2.2.2.1.length = 32 := hk_h.s2.2.2.1;first | assumption | (simp;done))) (arS_len (getS_ok hk_h k))).2 rfl ?_;clear hE a;intro a hE
        refine s_pickf hE rfl rfl rfl ?_;clear hE a;intro a hE
        refine q_nil ?_
        replace hE : Env a 112 [(1,_),(2,_),(4,_),(5,_),(6,_),(7,_),(8,_),(10,_),(11,_),(12,_),(13,_),(14,_),(15,_),(18,_),(28,_),(41,_),(43,_),(61,_),(77,_),(93,_),(100,_)] := hE.sel [1,2,4,5,6,7,8,10,11,12,13,14,15,18,28,41,43,61,77,93,100] rfl
        refine hK22 _ _ ?_
        replace hE := hE.cast 100 rfl (show _ = Value.bool false from (congrArg Value.bool (by obtain ⟨hw1,hw2⟩ := op_unw hqe;simp only [slotT] at hw1 hw2;rw [hw2,hke];simp [getS])))
        refine wp_cond_false (hE.eval rfl) ?_
        refine wp_skip ?_
        refine q_block_n ?_
        refine hK14 _ _ ?_
        refine wp_plain [true,true,true] rfl rfl ?_
        refine s_move hE rfl rfl ?_;clear hE a;intro a hE
        refine s_bin hE rfl rfl (show Bin _ _ _ _ _ (.int .i64 3) from bin_add (by rw [wrap_i64 (by omega) (by omega)];omega)) rfl ?_;clear hE a;intro a hE
        refine s_assign hE rfl rfl ?_;clear hE a;intro a hE
        refine q_nil ?_
        replace hE : Env a 112 [(1,_),(2,_),(4,_),(5,_),(6,_),(7,_),(8,_),(10,_),(11,_),(12,_),(13,_),(14,_),(15,_),(18,_),(28,_),(41,_),(43,_),(61,_),(77,_),(93,_),(100,_)] := hE.sel [1,2,4,5,6,7,8,10,11,12,13,14,15,18,28,41,43,61,77,93,100] rfl
        replace hM : Mem _ _ w17 [_,_,_,_,_] := hM.pick [3,4,5,6,7] rfl
        refine q_then_n ⟨trivial,hE.sel [1,2,4,5,6,7,8,10,18,28,41] rfl,hM⟩
       ·replace hE := hE';clear hE'
        replace hb93 := of_decide_eq_false hb93
        replace hb93 : ¬ (2 = k) := by omega
        have hqo : opS p h.s2 = false := hqb 2 (by omega)
        refine wp_cond_false (hE.eval rfl) ?_
        refine wp_seq_k (fun K22 hK22 => ?_)
        refine wp_plain [true,true] rfl rfl ?_
        refine s_move hE rfl rfl ?_;clear hE a;intro a hE
        refine s_bin hE rfl rfl bin_eql rfl ?_;clear hE a;intro a hE
        refine q_nil ?_
        replace hE : Env a 112 [(1,_),(2,_),(4,_),(5,_),(6,_),(7,_),(8,_),(10,_),(11,_),(12,_),(13,_),(14,_),(15,_),(18,_),(28,_),(41,_),(43,_),(61,_),(77,_),(93,_),(102,_)] := hE.sel [1,2,4,5,6,7,8,10,11,12,13,14,15,18,28,41,43,61,77,93,102] rfl
        refine hK22 _ _ ?_
        replace hE := hE.cast 102 rfl (show _ = Value.bool false from (congrArg Value.bool (decide_eq_false (by have hw1 := op_ne hu1 hqo;simp only [slotT] at hw1;omega))))
        refine wp_cond_false (hE.eval rfl) ?_
        refine wp_skip ?_
        refine q_block_n ?_
        refine hK14 _ _ ?_
        refine wp_plain [true,true,true] rfl rfl ?_
        refine s_move hE rfl rfl ?_;clear hE a;intro a hE
        refine s_bin hE rfl rfl (show Bin _ _ _ _ _ (.int .i64 3) from bin_add (by rw [wrap_i64 (by omega) (by omega)];omega)) rfl ?_;clear hE a;intro a hE
        refine s_assign hE rfl rfl ?_;clear hE a;intro a hE
        refine q_nil ?_
        replace hE : Env a 112 [(1,_),(2,_),(4,_),(5,_),(6,_),(7,_),(8,_),(10,_),(11,_),(12,_),(13,_),(14,_),(15,_),(18,_),(28,_),(41,_),(43,_),(61,_),(77,_),(93,_),(102,_)] := hE.sel [1,2,4,5,6,7,8,10,11,12,13,14,15,18,28,41,43,61,77,93,102] rfl
        replace hM : Mem _ _ w17 [_,_,_,_,_] := hM.pick [3,4,5,6,7] rfl
        refine q_then_n ⟨trivial,hE.sel [1,2,4,5,6,7,8,10,18,28,41] rfl,hM⟩
    clear hE hM a;rintro a w9 ⟨hJ10_2,hE,hM⟩
    refine c_roundsJ (fun a w' => True ∧ Env a 112 [(1,.string (str p)),(2,.pointer (some ⟨b2,0,none⟩)),(4,.bool false),(5,.pointer (some ⟨b5,0,none⟩)),(6,.int .i64 ((k : Nat) : Int)),(7,.int .i64 0),(8,v37),(10,.int .i64 4),(18,.bool false),(28,.bool false),(41,.bool false)] ∧ Mem w [] w' [blk b5 [bv (arS p (getS h k))] [32] 23,own v37 1 (phrZ p).length (bv (phrZ p)),blk b2 [[.int .i64 h.m],[.int .i64 h.r],[.bool h.v0.1],[.int .u64 ((h.v0.2.1 : Nat) : Int)],bv h.v0.2.2.1,bv h.v0.2.2.2,[.bool h.v1.1],[.int .u64 ((h.v1.2.1 : Nat) : Int)],bv h.v1.2.2.1,bv h.v1.2.2.2,[.bool h.s0.1],[.int .i64 h.s0.2.1],bv h.s0.2.2.1,bv h.s0.2.2.2.1,bv h.s0.2.2.2.2,[.bool h.s1.1],[.int .i64 h.s1.2.1],bv h.s1.2.2.1,bv h.s1.2.2.2.1,bv h.s1.2.2.2.2,[.bool h.s2.1],[.int .i64 h.s2.2.1],bv h.s2.2.2.1,bv h.s2.2.2.2.1,bv h.s2.2.2.2.2,[.bool h.s3.1],[.int .i64 h.s3.2.1],bv h.s3.2.2.1,bv h.s3.2.2.2.1,bv h.s3.2.2.2.2] [1,1,1,1,32,32,1,1,32,32,1,1,16,32,32,1,1,16,32,32,1,1,16,32,32,1,1,16,32,32] 62,glb 1,tabP]) ?_ ?_
    ·skip
     refine wp_seq_k (fun K12 hK12 => ?_)
     refine wp_seq_k (fun K13 hK13 => ?_)
     refine wp_plain [true,true] rfl rfl ?_
     refine s_move hE rfl rfl ?_;clear hE a;intro a hE
     refine s_bin hE rfl rfl bin_lss rfl ?_;clear hE a;intro a hE
     replace hE := hE.cast 43 rfl (show _ = Value.bool true from (congrArg Value.bool (by decide)))
     refine q_nil ?_
     replace hE : Env a 112 [(1,_),(2,_),(4,_),(5,_),(6,_),(7,_),(8,_),(10,_),(18,_),(28,_),(41,_),(43,_)] := hE.sel [1,2,4,5,6,7,8,10,18,28,41,43] rfl
     refine hK13 _ _ ?_
     refine wp_cond_true (hE.eval rfl) ?_
     refine wp_skip ?_
     refine hK12 _ _ ?_
     refine wp_seq_k (fun K14 hK14 => ?_)
     refine wp_block ?_
     refine wp_seq_k (fun K15 hK15 => ?_)
     refine wp_plain [true,true,true,true,false,false] rfl rfl ?_
     refine s_move hE rfl rfl ?_;clear hE a;intro a hE
     refine s_fieldAddr hE rfl fo62_2 rfl ?_;clear hE a;intro a hE
     refine s_indexArr (j := 3) hE rfl rfl arr60 rfl (by decide) rfl ?_;clear hE a;intro a hE
     refine s_loadN hE rfl (hM.get 2 rfl) row59 rfl (by intro X h;cases h) rfl ?_;clear hE a;intro a hE
     replace hE := hE.cast 49 rfl (show _ = Value.agg ([[.bool h.s3.1],[.int .i64 h.s3.2.1],bv h.s3.2.2.1,bv h.s3.2.2.2.1,bv h.s3.2.2.2.2] : List (List Value)).flatten.toArray from (by first | rfl | simp only [List.flatten_cons,List.flatten_nil,List.append_nil,List.append_assoc]))
     refine s_alloc [1,1,16,32,32] hE hM zeroL59 rfl rfl ?_;clear hE a;intro a b11 w10 hE hM'
     clear hM;have hM := hM';clear hM'
     have hsl1196_2 : h.s3.2.2.1.length = 16 := hk_h.s3.2.1
     have hsl1196_3 : h.s3.2.2.2.1.length = 32 := hk_h.s3.2.2.1
     have hsl1196_4 : h.s3.2.2.2.2.length = 32 := hk_h.s3.2.2.2
     refine s_storeSegs 0 5 (vss := [[.bool h.s3.1],[.int .i64 h.s3.2.1],bv h.s3.2.2.1,bv h.s3.2.2.2.1,bv h.s3.2.2.2.2]) hE rfl rfl hM rfl sz59 (by simp only [List.take_succ_cons,List.take_zero,List.drop_zero,List.drop_succ_cons];simp only [List.map_cons,List.map_nil,bv_length,List.length_cons,List.length_nil,List.length_replicate,hsl1196_2,hsl1196_3,hsl1196_4]) (by decide) rfl (one_fl ⟨one1 rfl,one1 rfl,bv_one _,bv_one _,bv_one _,trivial⟩) rfl (by intro X h;cases h) ?_;intro w11 hM';clear hM;have hM := hM';clear hM'
     try simp only [List.take_zero,List.take_succ_cons,List.drop_zero,List.drop_succ_cons,List.take_nil,List.drop_nil,List.nil_append,List.append_nil,List.cons_append] at hM
     refine q_nil ?_
     replace hE : Env a 112 [(1,_),(2,_),(4,_),(5,_),(6,_),(7,_),(8,_),(10,_),(11,_),(18,_),(28,_),(41,_),(43,_)] := hE.sel [1,2,4,5,6,7,8,10,11,18,28,41,43] rfl
     refine hK15 _ _ ?_
     refine wp_seq_k (fun K16 hK16 => ?_)
     refine wp_seq_k (fun K17 hK17 => ?_)
     refine wp_plain [true,true,true,true,true,true,true,true,true,true,true,true] rfl rfl ?_
     refine s_fieldAddr hE rfl fo59_0 rfl ?_;clear hE a;intro a hE
     refine s_load1 hE rfl (hM.get 0 rfl) rfl one4 (by intro X h;cases h) rfl ?_;clear hE a;intro a hE
     refine s_not hE rfl rfl ?_;clear hE a;intro a hE
     refine s_move hE rfl rfl ?_;clear hE a;intro a hE
     refine hE.split 53 rfl (fun hb53 hE' => ?_) (fun hb53 hE' => ?_)
     ·replace hE := hE';clear hE'
      replace hb53 := not_true hb53
      refine g_no (b := true) hE rfl rfl rfl ?_;clear hE a;intro a hE
      refine g_no (b := true) hE rfl rfl rfl ?_;clear hE a;intro a hE
      refine g_no (b := true) hE rfl rfl rfl ?_;clear hE a;intro a hE
      refine g_und hE rfl rfl rfl ?_;clear hE a;intro a hE
      refine g_und hE rfl rfl rfl ?_;clear hE a;intro a hE
      refine g_und hE rfl rfl rfl ?_;clear hE a;intro a hE
      refine g_no (b := true) hE rfl rfl rfl ?_;clear hE a;intro a hE
      refine s_pickt hE rfl rfl rfl ?_;clear hE a;intro a hE
      refine q_nil ?_
      replace hE : Env a 112 [(1,_),(2,_),(4,_),(5,_),(6,_),(7,_),(8,_),(10,_),(11,_),(18,_),(28,_),(41,_),(43,_),(61,_)] := hE.sel [1,2,4,5,6,7,8,10,11,18,28,41,43,61] rfl
      refine hK17 _ _ ?_
      refine wp_cond_true (hE.eval rfl) ?_
      refine wp_exit ?_
      refine q_then_e ?_
      refine q_block_x ?_
      refine hK14 _ _ ?_
      refine wp_plain [true,true,true] rfl rfl ?_
      refine s_move hE rfl rfl ?_;clear hE a;intro a hE
      refine s_bin hE rfl rfl (show Bin _ _ _ _ _ (.int .i64 4) from bin_add (by rw [wrap_i64 (by omega) (by omega)];omega)) rfl ?_;clear hE a;intro a hE
      refine s_assign hE rfl rfl ?_;clear hE a;intro a hE
      refine q_nil ?_
      replace hE : Env a 112 [(1,_),(2,_),(4,_),(5,_),(6,_),(7,_),(8,_),(10,_),(11,_),(18,_),(28,_),(41,_),(43,_),(61,_)] := hE.sel [1,2,4,5,6,7,8,10,11,18,28,41,43,61] rfl
      replace hM : Mem _ _ w11 [_,_,_,_,_] := hM.pick [1,2,3,4,5] rfl
      refine q_then_n ⟨trivial,hE.sel [1,2,4,5,6,7,8,10,18,28,41] rfl,hM⟩
     ·replace hE := hE';clear hE'
      replace hb53 := not_false' hb53
      have hu1 : h.s3.1 = true := by simpa using hb53
      have hor := hc3 hu1
      refine g_yes hE rfl rfl ?_
      refine s_move hE rfl rfl ?_;clear hE a;intro a hE
      refine g_yes hE rfl rfl ?_
      refine s_bin hE rfl rfl bin_eql rfl ?_;clear hE a;intro a hE
      replace hE := hE.cast 55 rfl (show _ = Value.bool true from (congrArg Value.bool (by decide)))
      refine g_yes hE rfl rfl ?_
      refine s_move hE rfl rfl ?_;clear hE a;intro a hE
      refine g_yes hE rfl rfl ?_
      refine s_move hE rfl rfl ?_;clear hE a;intro a hE
      refine g_yes hE rfl rfl ?_
      refine s_move hE rfl rfl ?_;clear hE a;intro a hE
      refine g_yes hE rfl rfl ?_
      refine s_bin hE rfl rfl bin_gtr rfl ?_;clear hE a;intro a hE
      refine g_yes hE rfl rfl ?_
      refine s_pickt hE rfl rfl rfl ?_;clear hE a;intro a hE
      refine s_pickf hE rfl rfl rfl ?_;clear hE a;intro a hE
      refine q_nil ?_
      replace hE : Env a 112 [(1,_),(2,_),(4,_),(5,_),(6,_),(7,_),(8,_),(10,_),(11,_),(18,_),(28,_),(41,_),(43,_),(61,_)] := hE.sel [1,2,4,5,6,7,8,10,11,18,28,41,43,61] rfl
      refine hK17 _ _ ?_
      refine hE.split 61 rfl (fun hb61 hE' => ?_) (fun hb61 hE' => ?_)
      ·replace hE := hE';clear hE'
       replace hb61 := of_decide_eq_true hb61
       replace hb61 : k < 3 := by omega
       refine wp_cond_true (hE.eval rfl) ?_
       refine wp_exit ?_
       refine q_then_e ?_
       refine q_block_x ?_
       refine hK14 _ _ ?_
       refine wp_plain [true,true,true] rfl rfl ?_
       refine s_move hE rfl rfl ?_;clear hE a;intro a hE
       refine s_bin hE rfl rfl (show Bin _ _ _ _ _ (.int .i64 4) from bin_add (by rw [wrap_i64 (by omega) (by omega)];omega)) rfl ?_;clear hE a;intro a hE
       refine s_assign hE rfl rfl ?_;clear hE a;intro a hE
       refine q_nil ?_
       replace hE : Env a 112 [(1,_),(2,_),(4,_),(5,_),(6,_),(7,_),(8,_),(10,_),(11,_),(18,_),(28,_),(41,_),(43,_),(61,_)] := hE.sel [1,2,4,5,6,7,8,10,11,18,28,41,43,61] rfl
       replace hM : Mem _ _ w11 [_,_,_,_,_] := hM.pick [1,2,3,4,5] rfl
       refine q_then_n ⟨trivial,hE.sel [1,2,4,5,6,7,8,10,18,28,41] rfl,hM⟩
      ·replace hE := hE';clear hE'
       replace hb61 := of_decide_eq_false hb61
       replace hb61 : ¬ (k < 3) := by omega
       refine wp_cond_false (hE.eval rfl) ?_
       refine wp_skip ?_
       refine hK16 _ _ ?_
       refine wp_seq_k (fun K18 hK18 => ?_)
       refine wp_drawnM hM (by kernel_rfl) (fun _ => False) [(0,true),(1,true),(2,true),(3,true),(4,true),(5,false),(6,true),(7,true),(8,true),(9,true),(10,true)] [(5,[(6,5),(7,6),(8,6),(9,5),(10,5)])] (by kernel_rfl) rfl ?_
       intro w12 hM' hww12;clear hM;have hM := hM';clear hM'
       refine s_move hE rfl rfl ?_;clear hE a;intro a hE
       refine s_fieldAddr hE rfl fo59_2 rfl ?_;clear hE a;intro a hE
       refine s_sliceArr (l := 0) (h := 16) (mx' := 16) hE rfl arr57 rfl rfl rfl (by simp) (by omega) (by omega) (by omega) rfl ?_;clear hE a;intro a hE
       replace hE := hE.cast 65 rfl (show _ = Value.slice (some ⟨b11,2,none⟩) 16 16 from rfl)
       refine s_fieldAddr hE rfl fo59_1 rfl ?_;clear hE a;intro a hE
       refine s_load1 hE rfl (hM.get 0 rfl) rfl one3 (by intro X h;cases h;simp) rfl ?_;clear hE a;intro a hE
       obtain ⟨cq4,hq4⟩ := own_rd (hM.get 2 rfl)
       refine s_call hE rfl Tryd.call31 (pkey_a _ _ (phrZ p) h.s3.2.2.1 _ _ h.s3.2.1 _ (hM.get 4 rfl) hq4 (rd_seg8 (N := 16) (hM.get 0 rfl) rfl hk_h.s3.2.1) (by have := phrZ_len p;omega) (by have hl_q : h.s3.2.2.1.length = 16 := hk_h.s3.2.1;omega)) rfl ?_
       rintro e w13 ⟨v68,rfl,hN⟩
       refine ⟨_,rfl,hN.sta0 _,?_⟩;clear hE a;intro a hE
       replace hM : Mem _ _ w13 [_,_,_,_,_,_,_] := hM.call0 hN ⟨rfl,trivial⟩;clear hN
       replace hM := Mem.ownWB (p := keyZ (phrZ p) h.s3.2.2.1 h.s3.2.1) (q := kK p h.s3.2.2.1 h.s3.2.1) hM (by simp [keyZ,phrZ,kK,hop,hor])
       refine s_move hE rfl rfl ?_;clear hE a;intro a hE
       refine s_extract hE rfl rfl rfl ?_;clear hE a;intro a hE
       refine s_extract hE rfl rfl rfl ?_;clear hE a;intro a hE
       refine s_assign hE rfl rfl ?_;clear hE a;intro a hE
       refine s_assign hE rfl rfl ?_;clear hE a;intro a hE
       refine q_nil ?_
       replace hE : Env a 112 [(1,_),(2,_),(4,_),(5,_),(6,_),(7,_),(8,_),(10,_),(11,_),(12,_),(13,_),(18,_),(28,_),(41,_),(43,_),(61,_)] := hE.sel [1,2,4,5,6,7,8,10,11,12,13,18,28,41,43,61] rfl
       refine hK18 _ _ ?_
       refine wp_seq_k (fun K19 hK19 => ?_)
       refine wp_seq_k (fun K20 hK20 => ?_)
       refine wp_plain [true,true,true,true,true,true,true] rfl rfl ?_
       refine s_move hE rfl rfl ?_;clear hE a;intro a hE
       refine s_bin hE rfl rfl bin_neq rfl ?_;clear hE a;intro a hE
       refine s_move hE rfl rfl ?_;clear hE a;intro a hE
       replace hE := hE.cast 73 rfl (show _ = Value.bool false from (congrArg Value.bool (by rw [roundE_zero.2 hor];rfl)))
       refine g_yes hE rfl rfl ?_
       refine s_move hE rfl rfl ?_;clear hE a;intro a hE
       refine g_yes hE rfl rfl ?_
       refine s_len hE rfl Tryd.underlying42 (ownW_slice (hM.get 0 rfl)) rfl ?_;clear hE a;intro a hE
       replace hE := hE.cast 75 rfl (show _ = Value.int .i64 ((32 : Nat) : Int) from (congrArg (fun n : Nat => Value.int .i64 (n : Int)) (kK_len ..)))
       refine g_yes hE rfl rfl ?_
       refine s_bin hE rfl rfl bin_neq rfl ?_;clear hE a;intro a hE
       replace hE := hE.cast 76 rfl (show _ = Value.bool false from (congrArg Value.bool (by decide)))
       refine s_pickf hE rfl rfl rfl ?_;clear hE a;intro a hE
       refine q_nil ?_
       replace hE : Env a 112 [(1,_),(2,_),(4,_),(5,_),(6,_),(7,_),(8,_),(10,_),(11,_),(12,_),(13,_),(18,_),(28,_),(41,_),(43,_),(61,_),(77,_)] := hE.sel [1,2,4,5,6,7,8,10,11,12,13,18,28,41,43,61,77] rfl
       refine hK20 _ _ ?_
       refine wp_cond_false (hE.eval rfl) ?_
       refine wp_skip ?_
       refine hK19 _ _ ?_
       refine wp_seq_j (fun a w' => ∃ (b14 : Nat),Env a 112 [(1,.string (str p)),(2,.pointer (some ⟨b2,0,none⟩)),(4,.bool false),(5,.pointer (some ⟨b5,0,none⟩)),(6,.int .i64 ((k : Nat) : Int)),(7,.int .i64 0),(8,v37),(10,.int .i64 3),(11,.pointer (some ⟨b11,0,none⟩)),(12,v68),(13,.int .i64 ((roundE h.s3.2.1 : Nat) : Int)),(14,.pointer (some ⟨b14,0,none⟩)),(15,.int .i64 ((unwE (kK p h.s3.2.2.1 h.s3.2.1) [115,108,111,116] 0 h.s3.2.2.2.1 h.s3.2.2.2.2 : Nat) : Int)),(18,.bool false),(28,.bool false),(41,.bool false),(43,.bool true),(61,.bool false),(77,.bool false)] ∧ Mem w [] w' [blk b14 [bv (unwK (kK p h.s3.2.2.1 h.s3.2.1) [115,108,111,116] 0 h.s3.2.2.2.1 h.s3.2.2.2.2)] [32] 23,ownW v68 1 (kK p h.s3.2.2.1 h.s3.2.1).length (bv (kK p h.s3.2.2.1 h.s3.2.1)),blk b11 [[.bool h.s3.1],[.int .i64 h.s3.2.1],bv h.s3.2.2.1,bv h.s3.2.2.2.1,bv h.s3.2.2.2.2] [1,1,16,32,32] 59,blk b5 [bv (arS p (getS h k))] [32] 23,own v37 1 (phrZ p).length (bv (phrZ p)),blk b2 [[.int .i64 h.m],[.int .i64 h.r],[.bool h.v0.1],[.int .u64 ((h.v0.2.1 : Nat) : Int)],bv h.v0.2.2.1,bv h.v0.2.2.2,[.bool h.v1.1],[.int .u64 ((h.v1.2.1 : Nat) : Int)],bv h.v1.2.2.1,bv h.v1.2.2.2,[.bool h.s0.1],[.int .i64 h.s0.2.1],bv h.s0.2.2.1,bv h.s0.2.2.2.1,bv h.s0.2.2.2.2,[.bool h.s1.1],[.int .i64 h.s1.2.1],bv h.s1.2.2.1,bv h.s1.2.2.2.1,bv h.s1.2.2.2.2,[.bool h.s2.1],[.int .i64 h.s2.2.1],bv h.s2.2.2.1,bv h.s2.2.2.2.1,bv h.s2.2.2.2.2,[.bool h.s3.1],[.int .i64 h.s3.2.1],bv h.s3.2.2.1,bv h.s3.2.2.2.1,bv h.s3.2.2.2.2] [1,1,1,1,32,32,1,1,32,32,1,1,16,32,32,1,1,16,32,32,1,1,16,32,32,1,1,16,32,32] 62,glb 1,tabP]) ?_ ?_
       ·refine wp_treeM hM (by kernel_rfl) (fun _ => True) (fun _ => True) (.re [(0,true),(1,true),(3,true),(2,true),(4,true),(5,false),(6,true),(7,true),(8,true),(9,false),(10,false),(11,true)] (.fl 3 (.weak (.fl 2 (.or 5 (.re [(6,true),(7,true),(8,true),(9,false),(10,false),(11,true)] (.fl 3 (.fl 0 (.or 9 (.re [(10,false),(11,true)] (.fl 0 (.fl 0 (.or 10 (.cut (.re [(11,true)] (.weak (.leaf 1)))) (.stop))))) (.stop))))) (.or 9 (.cut (.re [(5,false),(6,true),(7,true),(8,true),(10,false),(11,true)] (.fl 0 (.fl 0 (.or 5 (.re [(6,true),(7,true),(8,true),(10,false),(11,true)] (.fl 3 (.fl 0 (.weak (.or 10 (.cut (.re [(11,true)] (.weak (.leaf 1)))) (.stop)))))) (.stop)))))) (.stop))))))) [(0,true),(1,true),(3,true),(2,true),(4,true),(5,false),(6,true),(7,true),(8,true),(9,false),(10,false),(11,true)] [(1,[(2,1),(5,2),(6,5),(7,6),(8,6),(10,1),(11,1)]),(2,[(5,2),(6,5),(7,6),(8,6),(10,2),(11,2)]),(3,[(4,3),(5,4),(6,5),(7,6),(8,6),(10,3),(11,3)]),(4,[(5,4),(6,5),(7,6),(8,6),(10,4),(11,4)]),(5,[(6,5),(7,6),(8,6),(10,5),(11,5)]),(7,[(10,7),(11,7)]),(8,[(11,8)]),(9,[(10,9),(11,9)]),(10,[(11,10)])] (by kernel_rfl) ?_
        intro w14 hM' hww14;clear hM;have hM := hM';clear hM'
        refine o_re ?_
        refine o_fl rfl ?_
        refine s_move hE rfl rfl ?_;clear hE a;intro a hE
        refine s_toArrW hE rfl (hM.get 0 rfl) rfl (kK_len ..) (by decide) Tryd.underlying23 rfl ?_;clear hE a;intro a p80 hE hc80 hv80
        refine s_fieldAddr hE rfl fo59_3 rfl ?_;clear hE a;intro a hE
        refine q_nil (q_nx ?_)
        refine o_weak (fun b => b ≠ b11 ∧ b ∉ valBlocks v68) (fun _ _ => trivial) ?_
        refine o_fl rfl ?_
        refine s_loadAtN hE rfl hc80 (by rw [bv_length,kK_len];exact row23) (by intro X h;cases h;exact fun b hb hx => hx.2 (hv80 b hb)) rfl ?_;clear hE a;intro a hE
        refine s_loadN hE rfl (hM.get 1 rfl) row29 rfl (by intro X h;cases h;simp) rfl ?_;clear hE a;intro a hE
        replace hE := hE.cast 83 rfl (show _ = Value.agg ([bv h.s3.2.2.2.1,bv h.s3.2.2.2.2] : List (List Value)).flatten.toArray from (by first | rfl | simp only [List.flatten_cons,List.flatten_nil,List.append_nil,List.append_assoc]))
        refine q_nil (q_nx ?_)
        refine o_or rfl ?_ ?_
        ·refine s_call hE rfl Tryd.call16 (unwrap_c (kK p h.s3.2.2.1 h.s3.2.1) [115,108,111,116] 0 h.s3.2.2.2.1 h.s3.2.2.2.2 _ (hM.get 5 rfl) (hM.get 6 rfl) (kK_len ..) hk_h.s3.2.2.1 hk_h.s3.2.2.2 (by have hl_0 : (kK p h.s3.2.2.1 h.s3.2.1).length = 32 := (kK_len ..);have hl_1 : [115,108,111,116].length = 4 := (by first | (simp;done) | (simp [*];done) | (simp;omega));have hl_3d : h.s3.2.2.2.1.length = 32 := hk_h.s3.2.2.1;have hl_3t : h.s3.2.2.2.2.length = 32 := hk_h.s3.2.2.2;first | omega | assumption | (simp;done) | (simp;omega) | decide) (by have hl_0 : (kK p h.s3.2.2.1 h.s3.2.1).length = 32 := (kK_len ..);have hl_1 : [115,108,111,116].length = 4 := (by first | (simp;done) | (simp [*];done) | (simp;omega));have hl_3d : h.s3.2.2.2.1.length = 32 := hk_h.s3.2.2.1;have hl_3t : h.s3.2.2.2.2.length = 32 := hk_h.s3.2.2.2;first | omega | assumption | (simp;done) | (simp;omega) | decide)) rfl ?_
         rintro e w15 ⟨rfl,hN⟩
         refine ⟨_,rfl,hN.sta0 _,?_⟩;clear hE a;intro a hE
         replace hM : Mem _ _ w15 [_,_,_,_,_,_,_] := hM.call0 hN trivial;clear hN
         refine q_nil (q_nx ?_)
         refine o_re ?_
         refine o_fl rfl ?_
         refine s_move hE rfl rfl ?_;clear hE a;intro a hE
         refine s_extract hE rfl rfl rfl ?_;clear hE a;intro a hE
         refine s_extract hE rfl rfl rfl ?_;clear hE a;intro a hE
         refine q_nil (q_nx ?_)
         refine o_fl rfl ?_
         refine q_nil (q_nx ?_)
         refine o_or rfl ?_ ?_
         ·refine s_alloc [32] hE hM zero23 rfl rfl ?_;clear hE a;intro a b14 w16 hE hM'
          clear hM;have hM := hM';clear hM'
          refine q_nil (q_nx ?_)
          refine o_re ?_
          refine o_fl rfl ?_
          refine q_nil (q_nx ?_)
          refine o_fl rfl ?_
          refine q_nil (q_nx ?_)
          refine o_or rfl ?_ ?_
          ·refine s_storeSeg 0 hE rfl rfl hM rfl sz23 ((bv_length _).trans (unwK_len (k := (kK p h.s3.2.2.1 h.s3.2.1)) (l := [115,108,111,116]) (n := 0) (d := h.s3.2.2.2.1) (t := h.s3.2.2.2.2) (by have hl_std : h.s3.2.2.2.1.length = 32 := hk_h.s3.2.2.1;first | assumption | (simp;done)))) (bv_one _) rfl ((bv_length _).trans (by first | (simp;done) | (simp [*];done) | (simp;omega))) rfl (by intro X h;cases h;exact ⟨fun e => ((apart_of_get hM.apart (i := 0) (j := 2) rfl rfl (by decide)).1 _ (.head _)).1 (by rw [e];exact .head _),fun hv => ((apart_of_get hM.apart (i := 0) (j := 1) rfl rfl (by decide)).1 _ (.head _)).1 hv⟩) ?_;intro w17 hM';clear hM;have hM := hM';clear hM'
           simp only [List.set_cons_zero,List.set_cons_succ] at hM
           refine q_nil (q_nx ?_)
           refine o_cut (fun _ => True) ?_
           refine o_re ?_
           refine o_weak (fun _ => False) (fun _ _ => trivial) ?_
           refine o_leaf rfl rfl ?_
           refine s_assign hE rfl rfl ?_;clear hE a;intro a hE
           refine q_nil (q_ph (q_nil ?_))
           replace hE : Env a 112 [(1,_),(2,_),(4,_),(5,_),(6,_),(7,_),(8,_),(10,_),(11,_),(12,_),(13,_),(14,_),(15,_),(18,_),(28,_),(41,_),(43,_),(61,_),(77,_)] := hE.sel [1,2,4,5,6,7,8,10,11,12,13,14,15,18,28,41,43,61,77] rfl
           replace hM : Mem _ _ w17 [_,_,_,_,_,_,_,_] := hM.pick [0,1,2,3,4,5,6,7] rfl
           refine q_then_n ⟨_,hE.sel [1,2,4,5,6,7,8,10,11,12,13,14,15,18,28,41,43,61,77] rfl,hM⟩
          trivial
         trivial
        refine o_or rfl ?_ ?_
        ·refine s_alloc [32] hE hM zero23 rfl rfl ?_;clear hE a;intro a b14 w15 hE hM'
         clear hM;have hM := hM';clear hM'
         refine q_nil (q_nx ?_)
         refine o_cut (fun _ => True) ?_
         refine o_re ?_
         refine o_fl rfl ?_
         refine q_nil (q_nx ?_)
         refine o_fl rfl ?_
         refine q_nil (q_nx ?_)
         refine o_or rfl ?_ ?_
         ·refine s_call hE rfl Tryd.call16 (unwrap_c (kK p h.s3.2.2.1 h.s3.2.1) [115,108,111,116] 0 h.s3.2.2.2.1 h.s3.2.2.2.2 _ (hM.get 6 rfl) (hM.get 7 rfl) (kK_len ..) hk_h.s3.2.2.1 hk_h.s3.2.2.2 (by have hl_0 : (kK p h.s3.2.2.1 h.s3.2.1).length = 32 := (kK_len ..);have hl_1 : [115,108,111,116].length = 4 := (by first | (simp;done) | (simp [*];done) | (simp;omega));have hl_3d : h.s3.2.2.2.1.length = 32 := hk_h.s3.2.2.1;have hl_3t : h.s3.2.2.2.2.length = 32 := hk_h.s3.2.2.2;first | omega | assumption | (simp;done) | (simp;omega) | decide) (by have hl_0 : (kK p h.s3.2.2.1 h.s3.2.1).length = 32 := (kK_len ..);have hl_1 : [115,108,111,116].length = 4 := (by first | (simp;done) | (simp [*];done) | (simp;omega));have hl_3d : h.s3.2.2.2.1.length = 32 := hk_h.s3.2.2.1;have hl_3t : h.s3.2.2.2.2.length = 32 := hk_h.s3.2.2.2;first | omega | assumption | (simp;done) | (simp;omega) | decide)) rfl ?_
          rintro e w16 ⟨rfl,hN⟩
          refine ⟨_,rfl,hN.sta0 _,?_⟩;clear hE a;intro a hE
          replace hM : Mem _ _ w16 [_,_,_,_,_,_,_,_] := hM.call0 hN trivial;clear hN
          refine q_nil (q_nx ?_)
          refine o_re ?_
          refine o_fl rfl ?_
          refine s_move hE rfl rfl ?_;clear hE a;intro a hE
          refine s_extract hE rfl rfl rfl ?_;clear hE a;intro a hE
          refine s_extract hE rfl rfl rfl ?_;clear hE a;intro a hE
          refine q_nil (q_nx ?_)
          refine o_fl rfl ?_
          refine q_nil (q_nx ?_)
          refine o_weak (fun b => b = b14) (fun _ _ => trivial) ?_
          refine o_or rfl ?_ ?_
          ·refine s_storeSeg 0 hE rfl rfl hM rfl sz23 ((bv_length _).trans (unwK_len (k := (kK p h.s3.2.2.1 h.s3.2.1)) (l := [115,108,111,116]) (n := 0) (d := h.s3.2.2.2.1) (t := h.s3.2.2.2.2) (by have hl_std : h.s3.2.2.2.1.length = 32 := hk_h.s3.2.2.1;first | assumption | (simp;done)))) (bv_one _) rfl ((bv_length _).trans (by first | (simp;done) | (simp [*];done) | (simp;omega))) rfl (by intro X h;cases h;rfl) ?_;intro w17 hM';clear hM;have hM := hM';clear hM'
           simp only [List.set_cons_zero,List.set_cons_succ] at hM
           refine q_nil (q_nx ?_)
           refine o_cut (fun _ => True) ?_
           refine o_re ?_
           refine o_weak (fun _ => False) (fun _ _ => trivial) ?_
           refine o_leaf rfl rfl ?_
           refine s_assign hE rfl rfl ?_;clear hE a;intro a hE
           refine q_nil (q_ph (q_nil ?_))
           replace hE : Env a 112 [(1,_),(2,_),(4,_),(5,_),(6,_),(7,_),(8,_),(10,_),(11,_),(12,_),(13,_),(14,_),(15,_),(18,_),(28,_),(41,_),(43,_),(61,_),(77,_)] := hE.sel [1,2,4,5,6,7,8,10,11,12,13,14,15,18,28,41,43,61,77] rfl
           replace hM : Mem _ _ w17 [_,_,_,_,_,_,_,_] := hM.pick [0,1,2,3,4,5,6,7] rfl
           refine q_then_n ⟨_,hE.sel [1,2,4,5,6,7,8,10,11,12,13,14,15,18,28,41,43,61,77] rfl,hM⟩
          trivial
         trivial
        trivial
       clear hE hM a;rintro a w18 ⟨b14,hE,hM⟩
       refine wp_seq_k (fun K21 hK21 => ?_)
       refine wp_plain [true,true,true,true,true,true,true] rfl rfl ?_
       refine s_move hE rfl rfl ?_;clear hE a;intro a hE
       refine s_bin hE rfl rfl bin_eql rfl ?_;clear hE a;intro a hE
       replace hE := hE.cast 88 rfl (show _ = Value.bool true from (congrArg Value.bool (by decide)))
       refine s_move hE rfl rfl ?_;clear hE a;intro a hE
       refine g_yes hE rfl rfl ?_
       refine s_move hE rfl rfl ?_;clear hE a;intro a hE
       refine g_yes hE rfl rfl ?_
       refine s_move hE rfl rfl ?_;clear hE a;intro a hE
       refine g_yes hE rfl rfl ?_
       refine s_bin hE rfl rfl bin_eql rfl ?_;clear hE a;intro a hE
       refine s_pickt hE rfl rfl rfl ?_;clear hE a;intro a hE
       refine q_nil ?_
       replace hE : Env a 112 [(1,_),(2,_),(4,_),(5,_),(6,_),(7,_),(8,_),(10,_),(11,_),(12,_),(13,_),(14,_),(15,_),(18,_),(28,_),(41,_),(43,_),(61,_),(77,_),(93,_)] := hE.sel [1,2,4,5,6,7,8,10,11,12,13,14,15,18,28,41,43,61,77,93] rfl
       refine hK21 _ _ ?_
       refine hE.split 93 rfl (fun hb93 hE' => ?_) (fun hb93 hE' => ?_)
       ·replace hE := hE';clear hE'
        replace hb93 := of_decide_eq_true hb93
        replace hb93 : 3 = k := by omega
        have hqe : opS p h.s3 = true := (by have hk2 := hqk;rw [show k = 3 by omega] at hk2;exact hk2)
        have hke : k = 3 := by omega
        refine wp_cond_true (hE.eval rfl) ?_
        refine wp_seq_k (fun K22 hK22 => ?_)
        refine wp_plain [true,true,true,true,true,true,true] rfl rfl ?_
        refine s_move hE rfl rfl ?_;clear hE a;intro a hE
        refine s_bin hE rfl rfl bin_neq rfl ?_;clear hE a;intro a hE
        refine s_move hE rfl rfl ?_;clear hE a;intro a hE
        replace hE := hE.cast 96 rfl (show _ = Value.bool false from (congrArg Value.bool (by obtain ⟨hw1,hw2⟩ := op_unw hqe;simp only [slotT] at hw1 hw2;rw [hw1];rfl)))
        refine g_yes hE rfl rfl ?_
        refine s_loadN hE rfl (hM.get 0 rfl) row23 rfl (by intro X h;cases h) rfl ?_;clear hE a;intro a hE
        refine g_yes hE rfl rfl ?_
        refine s_loadN hE rfl (hM.get 3 rfl) row23 rfl (by intro X h;cases h) rfl ?_;clear hE a;intro a hE
        refine g_yes hE rfl rfl ?_
        refine s_bin hE rfl rfl (eqa23 (unwK_len (k := (kK p h.s3.2.2.1 h.s3.2.1)) (l := [115,108,111,116]) (n := 0) (d := h.s3.2.2.2.1) (t := h.s3.2.2.2.2) (by have hl_std : h.s3.2.2.2.1.length = 32 := hk_h.s3.2.2.1;first | assumption | (simp;done))) (arS_len (getS_ok hk_h k))).2 rfl ?_;clear hE a;intro a hE
        refine s_pickf hE rfl rfl rfl ?_;clear hE a;intro a hE
        refine q_nil ?_
        replace hE : Env a 112 [(1,_),(2,_),(4,_),(5,_),(6,_),(7,_),(8,_),(10,_),(11,_),(12,_),(13,_),(14,_),(15,_),(18,_),(28,_),(41,_),(43,_),(61,_),(77,_),(93,_),(100,_)] := hE.sel [1,2,4,5,6,7,8,10,11,12,13,14,15,18,28,41,43,61,77,93,100] rfl
        refine hK22 _ _ ?_
        replace hE := hE.cast 100 rfl (show _ = Value.bool false from (congrArg Value.bool (by obtain ⟨hw1,hw2⟩ := op_unw hqe;simp only [slotT] at hw1 hw2;rw [hw2,hke];simp [getS])))
        refine wp_cond_false (hE.eval rfl) ?_
        refine wp_skip ?_
        refine q_block_n ?_
        refine hK14 _ _ ?_
        refine wp_plain [true,true,true] rfl rfl ?_
        refine s_move hE rfl rfl ?_;clear hE a;intro a hE
        refine s_bin hE rfl rfl (show Bin _ _ _ _ _ (.int .i64 4) from bin_add (by rw [wrap_i64 (by omega) (by omega)];omega)) rfl ?_;clear hE a;intro a hE
        refine s_assign hE rfl rfl ?_;clear hE a;intro a hE
        refine q_nil ?_
        replace hE : Env a 112 [(1,_),(2,_),(4,_),(5,_),(6,_),(7,_),(8,_),(10,_),(11,_),(12,_),(13,_),(14,_),(15,_),(18,_),(28,_),(41,_),(43,_),(61,_),(77,_),(93,_),(100,_)] := hE.sel [1,2,4,5,6,7,8,10,11,12,13,14,15,18,28,41,43,61,77,93,100] rfl
        replace hM : Mem _ _ w18 [_,_,_,_,_] := hM.pick [3,4,5,6,7] rfl
        refine q_then_n ⟨trivial,hE.sel [1,2,4,5,6,7,8,10,18,28,41] rfl,hM⟩
       ·replace hE := hE';clear hE'
        replace hb93 := of_decide_eq_false hb93
        replace hb93 : ¬ (3 = k) := by omega
        have hqo : opS p h.s3 = false := hqb 3 (by omega)
        refine wp_cond_false (hE.eval rfl) ?_
        refine wp_seq_k (fun K22 hK22 => ?_)
        refine wp_plain [true,true] rfl rfl ?_
        refine s_move hE rfl rfl ?_;clear hE a;intro a hE
        refine s_bin hE rfl rfl bin_eql rfl ?_;clear hE a;intro a hE
        refine q_nil ?_
        replace hE : Env a 112 [(1,_),(2,_),(4,_),(5,_),(6,_),(7,_),(8,_),(10,_),(11,_),(12,_),(13,_),(14,_),(15,_),(18,_),(28,_),(41,_),(43,_),(61,_),(77,_),(93,_),(102,_)] := hE.sel [1,2,4,5,6,7,8,10,11,12,13,14,15,18,28,41,43,61,77,93,102] rfl
        refine hK22 _ _ ?_
        replace hE := hE.cast 102 rfl (show _ = Value.bool false from (congrArg Value.bool (decide_eq_false (by have hw1 := op_ne hu1 hqo;simp only [slotT] at hw1;omega))))
        refine wp_cond_false (hE.eval rfl) ?_
        refine wp_skip ?_
        refine q_block_n ?_
        refine hK14 _ _ ?_
        refine wp_plain [true,true,true] rfl rfl ?_
        refine s_move hE rfl rfl ?_;clear hE a;intro a hE
        refine s_bin hE rfl rfl (show Bin _ _ _ _ _ (.int .i64 4) from bin_add (by rw [wrap_i64 (by omega) (by omega)];omega)) rfl ?_;clear hE a;intro a hE
        refine s_assign hE rfl rfl ?_;clear hE a;intro a hE
        refine q_nil ?_
        replace hE : Env a 112 [(1,_),(2,_),(4,_),(5,_),(6,_),(7,_),(8,_),(10,_),(11,_),(12,_),(13,_),(14,_),(15,_),(18,_),(28,_),(41,_),(43,_),(61,_),(77,_),(93,_),(102,_)] := hE.sel [1,2,4,5,6,7,8,10,11,12,13,14,15,18,28,41,43,61,77,93,102] rfl
        replace hM : Mem _ _ w18 [_,_,_,_,_] := hM.pick [3,4,5,6,7] rfl
        refine q_then_n ⟨trivial,hE.sel [1,2,4,5,6,7,8,10,18,28,41] rfl,hM⟩
    clear hE hM a;rintro a w10 ⟨hJ10_3,hE,hM⟩
    refine c_rounds ?_
    refine wp_seq_k (fun K12 hK12 => ?_)
    refine wp_seq_k (fun K13 hK13 => ?_)
    refine wp_plain [true,true] rfl rfl ?_
    refine s_move hE rfl rfl ?_;clear hE a;intro a hE
    refine s_bin hE rfl rfl bin_lss rfl ?_;clear hE a;intro a hE
    replace hE := hE.cast 43 rfl (show _ = Value.bool false from (congrArg Value.bool (by decide)))
    refine q_nil ?_
    replace hE : Env a 112 [(1,_),(2,_),(4,_),(5,_),(6,_),(7,_),(8,_),(10,_),(18,_),(28,_),(41,_),(43,_)] := hE.sel [1,2,4,5,6,7,8,10,18,28,41,43] rfl
    refine hK13 _ _ ?_
    refine wp_cond_false (hE.eval rfl) ?_
    refine wp_exit ?_
    refine q_then_e ?_
    refine q_then_e ?_
    refine q_block_x ?_
    refine hK10 _ _ ?_
    refine wp_seq_k (fun K14 hK14 => ?_)
    refine wp_plain [true,true,true,true,true,true,true,false,true,true] rfl rfl ?_
    refine s_move hE rfl rfl ?_;clear hE a;intro a hE
    refine s_bin hE rfl rfl bin_eql rfl ?_;clear hE a;intro a hE
    replace hE := hE.cast 104 rfl (show _ = Value.bool true from (congrArg Value.bool (by decide)))
    refine s_move hE rfl rfl ?_;clear hE a;intro a hE
    refine g_no (b := true) hE rfl rfl rfl ?_;clear hE a;intro a hE
    refine g_no (b := true) hE rfl rfl rfl ?_;clear hE a;intro a hE
    refine s_pickt hE rfl rfl rfl ?_;clear hE a;intro a hE
    refine s_move hE rfl rfl ?_;clear hE a;intro a hE
    refine g_yes hE rfl rfl ?_
    refine s_call hE rfl Tryd.call28 (awake25_c  _ (hM.get 3 rfl) (hM.get 4 rfl)) rfl ?_
    rintro e w11 ⟨rfl,hN⟩
    refine ⟨_,rfl,trivial,?_⟩;clear hE a;intro a hE
    replace hM : Mem _ _ w11 [_,_,_,_,_] := hM.call0 hN trivial;clear hN
    refine s_pickt hE rfl rfl rfl ?_;clear hE a;intro a hE
    refine s_assign hE rfl rfl ?_;clear hE a;intro a hE
    refine q_nil ?_
    replace hE : Env a 112 [(1,_),(2,_),(4,_),(5,_),(6,_),(7,_),(8,_),(10,_),(18,_),(28,_),(41,_),(43,_)] := hE.sel [1,2,4,5,6,7,8,10,18,28,41,43] rfl
    refine hK14 _ _ ?_
    refine wp_ret ?_
    refine f_ret1 hE rfl rfl ?_
    exact ⟨(by first | rfl | (simp;done)),hM.pick [] rfl⟩
   ·replace hE := hE.cast 6 rfl (show _ = Value.int .i64 ((0 : Nat) : Int) from congrArg (fun q : List UInt8 × Nat × Nat => Value.int .i64 (q.2.1 : Int)) hun)
    replace hE := hE.cast 7 rfl (show _ = Value.int .i64 12 from congrArg (fun q : List UInt8 × Nat × Nat => Value.int .i64 (q.2.2 : Int)) hun)
    replace hM : Mem _ _ w6 [_,_,_,_,_] := hM.pick [1,0,2,3,4] rfl
    replace hM := Mem.blkB (p := (unl h p).1) (q := List.replicate 32 0) hM (by rw [hun])
    refine q_nil ?_
    refine hK11 _ _ ?_
    refine wp_block ?_
    refine wp_loop_rounds 5 ?_
    refine c_roundsJ (fun a w' => True ∧ Env a 112 [(1,.string (str p)),(2,.pointer (some ⟨b2,0,none⟩)),(4,.bool false),(5,.pointer (some ⟨b5,0,none⟩)),(6,.int .i64 0),(7,.int .i64 12),(8,v37),(10,.int .i64 1),(18,.bool false),(28,.bool false),(41,.bool false)] ∧ Mem w [] w' [blk b5 [bv (List.replicate 32 0)] [32] 23,own v37 1 (phrZ p).length (bv (phrZ p)),blk b2 [[.int .i64 h.m],[.int .i64 h.r],[.bool h.v0.1],[.int .u64 ((h.v0.2.1 : Nat) : Int)],bv h.v0.2.2.1,bv h.v0.2.2.2,[.bool h.v1.1],[.int .u64 ((h.v1.2.1 : Nat) : Int)],bv h.v1.2.2.1,bv h.v1.2.2.2,[.bool h.s0.1],[.int .i64 h.s0.2.1],bv h.s0.2.2.1,bv h.s0.2.2.2.1,bv h.s0.2.2.2.2,[.bool h.s1.1],[.int .i64 h.s1.2.1],bv h.s1.2.2.1,bv h.s1.2.2.2.1,bv h.s1.2.2.2.2,[.bool h.s2.1],[.int .i64 h.s2.2.1],bv h.s2.2.2.1,bv h.s2.2.2.2.1,bv h.s2.2.2.2.2,[.bool h.s3.1],[.int .i64 h.s3.2.1],bv h.s3.2.2.1,bv h.s3.2.2.2.1,bv h.s3.2.2.2.2] [1,1,1,1,32,32,1,1,32,32,1,1,16,32,32,1,1,16,32,32,1,1,16,32,32,1,1,16,32,32] 62,glb 1,tabP]) ?_ ?_
    ·skip
     refine wp_seq_k (fun K12 hK12 => ?_)
     refine wp_seq_k (fun K13 hK13 => ?_)
     refine wp_plain [true,true] rfl rfl ?_
     refine s_move hE rfl rfl ?_;clear hE a;intro a hE
     refine s_bin hE rfl rfl bin_lss rfl ?_;clear hE a;intro a hE
     replace hE := hE.cast 43 rfl (show _ = Value.bool true from (congrArg Value.bool (by decide)))
     refine q_nil ?_
     replace hE : Env a 112 [(1,_),(2,_),(4,_),(5,_),(6,_),(7,_),(8,_),(10,_),(18,_),(28,_),(41,_),(43,_)] := hE.sel [1,2,4,5,6,7,8,10,18,28,41,43] rfl
     refine hK13 _ _ ?_
     refine wp_cond_true (hE.eval rfl) ?_
     refine wp_skip ?_
     refine hK12 _ _ ?_
     refine wp_seq_k (fun K14 hK14 => ?_)
     refine wp_block ?_
     refine wp_seq_k (fun K15 hK15 => ?_)
     refine wp_plain [true,true,true,true,false,false] rfl rfl ?_
     refine s_move hE rfl rfl ?_;clear hE a;intro a hE
     refine s_fieldAddr hE rfl fo62_2 rfl ?_;clear hE a;intro a hE
     refine s_indexArr (j := 0) hE rfl rfl arr60 rfl (by decide) rfl ?_;clear hE a;intro a hE
     refine s_loadN hE rfl (hM.get 2 rfl) row59 rfl (by intro X h;cases h) rfl ?_;clear hE a;intro a hE
     replace hE := hE.cast 49 rfl (show _ = Value.agg ([[.bool h.s0.1],[.int .i64 h.s0.2.1],bv h.s0.2.2.1,bv h.s0.2.2.2.1,bv h.s0.2.2.2.2] : List (List Value)).flatten.toArray from (by first | rfl | simp only [List.flatten_cons,List.flatten_nil,List.append_nil,List.append_assoc]))
     refine s_alloc [1,1,16,32,32] hE hM zeroL59 rfl rfl ?_;clear hE a;intro a b11 w7 hE hM'
     clear hM;have hM := hM';clear hM'
     have hsl1574_2 : h.s0.2.2.1.length = 16 := hk_h.s0.2.1
     have hsl1574_3 : h.s0.2.2.2.1.length = 32 := hk_h.s0.2.2.1
     have hsl1574_4 : h.s0.2.2.2.2.length = 32 := hk_h.s0.2.2.2
     refine s_storeSegs 0 5 (vss := [[.bool h.s0.1],[.int .i64 h.s0.2.1],bv h.s0.2.2.1,bv h.s0.2.2.2.1,bv h.s0.2.2.2.2]) hE rfl rfl hM rfl sz59 (by simp only [List.take_succ_cons,List.take_zero,List.drop_zero,List.drop_succ_cons];simp only [List.map_cons,List.map_nil,bv_length,List.length_cons,List.length_nil,List.length_replicate,hsl1574_2,hsl1574_3,hsl1574_4]) (by decide) rfl (one_fl ⟨one1 rfl,one1 rfl,bv_one _,bv_one _,bv_one _,trivial⟩) rfl (by intro X h;cases h) ?_;intro w8 hM';clear hM;have hM := hM';clear hM'
     try simp only [List.take_zero,List.take_succ_cons,List.drop_zero,List.drop_succ_cons,List.take_nil,List.drop_nil,List.nil_append,List.append_nil,List.cons_append] at hM
     refine q_nil ?_
     replace hE : Env a 112 [(1,_),(2,_),(4,_),(5,_),(6,_),(7,_),(8,_),(10,_),(11,_),(18,_),(28,_),(41,_),(43,_)] := hE.sel [1,2,4,5,6,7,8,10,11,18,28,41,43] rfl
     refine hK15 _ _ ?_
     refine wp_seq_k (fun K16 hK16 => ?_)
     refine wp_seq_k (fun K17 hK17 => ?_)
     refine wp_plain [true,true,true,true,true,true,true,true,true,true,true,true] rfl rfl ?_
     refine s_fieldAddr hE rfl fo59_0 rfl ?_;clear hE a;intro a hE
     refine s_load1 hE rfl (hM.get 0 rfl) rfl one4 (by intro X h;cases h) rfl ?_;clear hE a;intro a hE
     refine s_not hE rfl rfl ?_;clear hE a;intro a hE
     refine s_move hE rfl rfl ?_;clear hE a;intro a hE
     refine hE.split 53 rfl (fun hb53 hE' => ?_) (fun hb53 hE' => ?_)
     ·replace hE := hE';clear hE'
      replace hb53 := not_true hb53
      refine g_no (b := true) hE rfl rfl rfl ?_;clear hE a;intro a hE
      refine g_no (b := true) hE rfl rfl rfl ?_;clear hE a;intro a hE
      refine g_no (b := true) hE rfl rfl rfl ?_;clear hE a;intro a hE
      refine g_und hE rfl rfl rfl ?_;clear hE a;intro a hE
      refine g_und hE rfl rfl rfl ?_;clear hE a;intro a hE
      refine g_und hE rfl rfl rfl ?_;clear hE a;intro a hE
      refine g_no (b := true) hE rfl rfl rfl ?_;clear hE a;intro a hE
      refine s_pickt hE rfl rfl rfl ?_;clear hE a;intro a hE
      refine q_nil ?_
      replace hE : Env a 112 [(1,_),(2,_),(4,_),(5,_),(6,_),(7,_),(8,_),(10,_),(11,_),(18,_),(28,_),(41,_),(43,_),(61,_)] := hE.sel [1,2,4,5,6,7,8,10,11,18,28,41,43,61] rfl
      refine hK17 _ _ ?_
      refine wp_cond_true (hE.eval rfl) ?_
      refine wp_exit ?_
      refine q_then_e ?_
      refine q_block_x ?_
      refine hK14 _ _ ?_
      refine wp_plain [true,true,true] rfl rfl ?_
      refine s_move hE rfl rfl ?_;clear hE a;intro a hE
      refine s_bin hE rfl rfl (show Bin _ _ _ _ _ (.int .i64 1) from bin_add (by rw [wrap_i64 (by omega) (by omega)];omega)) rfl ?_;clear hE a;intro a hE
      refine s_assign hE rfl rfl ?_;clear hE a;intro a hE
      refine q_nil ?_
      replace hE : Env a 112 [(1,_),(2,_),(4,_),(5,_),(6,_),(7,_),(8,_),(10,_),(11,_),(18,_),(28,_),(41,_),(43,_),(61,_)] := hE.sel [1,2,4,5,6,7,8,10,11,18,28,41,43,61] rfl
      replace hM : Mem _ _ w8 [_,_,_,_,_] := hM.pick [1,2,3,4,5] rfl
      refine q_then_n ⟨trivial,hE.sel [1,2,4,5,6,7,8,10,18,28,41] rfl,hM⟩
     ·replace hE := hE';clear hE'
      replace hb53 := not_false' hb53
      have hu1 : h.s0.1 = true := by simpa using hb53
      have hor := hc0 hu1
      refine g_yes hE rfl rfl ?_
      refine s_move hE rfl rfl ?_;clear hE a;intro a hE
      refine g_yes hE rfl rfl ?_
      refine s_bin hE rfl rfl bin_eql rfl ?_;clear hE a;intro a hE
      replace hE := hE.cast 55 rfl (show _ = Value.bool false from (congrArg Value.bool (by decide)))
      refine g_yes hE rfl rfl ?_
      refine s_move hE rfl rfl ?_;clear hE a;intro a hE
      refine g_no (b := false) hE rfl rfl rfl ?_;clear hE a;intro a hE
      refine g_no (b := false) hE rfl rfl rfl ?_;clear hE a;intro a hE
      refine g_no (b := false) hE rfl rfl rfl ?_;clear hE a;intro a hE
      refine g_yes hE rfl rfl ?_
      refine s_pickf hE rfl rfl rfl ?_;clear hE a;intro a hE
      refine s_pickf hE rfl rfl rfl ?_;clear hE a;intro a hE
      refine q_nil ?_
      replace hE : Env a 112 [(1,_),(2,_),(4,_),(5,_),(6,_),(7,_),(8,_),(10,_),(11,_),(18,_),(28,_),(41,_),(43,_),(61,_)] := hE.sel [1,2,4,5,6,7,8,10,11,18,28,41,43,61] rfl
      refine hK17 _ _ ?_
      refine wp_cond_false (hE.eval rfl) ?_
      refine wp_skip ?_
      refine hK16 _ _ ?_
      refine wp_seq_k (fun K18 hK18 => ?_)
      refine wp_drawnM hM (by kernel_rfl) (fun _ => False) [(0,true),(1,true),(2,true),(3,true),(4,true),(5,false),(6,true),(7,true),(8,true),(9,true),(10,true)] [(5,[(6,5),(7,6),(8,6),(9,5),(10,5)])] (by kernel_rfl) rfl ?_
      intro w9 hM' hww9;clear hM;have hM := hM';clear hM'
      refine s_move hE rfl rfl ?_;clear hE a;intro a hE
      refine s_fieldAddr hE rfl fo59_2 rfl ?_;clear hE a;intro a hE
      refine s_sliceArr (l := 0) (h := 16) (mx' := 16) hE rfl arr57 rfl rfl rfl (by simp) (by omega) (by omega) (by omega) rfl ?_;clear hE a;intro a hE
      replace hE := hE.cast 65 rfl (show _ = Value.slice (some ⟨b11,2,none⟩) 16 16 from rfl)
      refine s_fieldAddr hE rfl fo59_1 rfl ?_;clear hE a;intro a hE
      refine s_load1 hE rfl (hM.get 0 rfl) rfl one3 (by intro X h;cases h;simp) rfl ?_;clear hE a;intro a hE
      obtain ⟨cq5,hq5⟩ := own_rd (hM.get 2 rfl)
      refine s_call hE rfl Tryd.call31 (pkey_a _ _ (phrZ p) h.s0.2.2.1 _ _ h.s0.2.1 _ (hM.get 4 rfl) hq5 (rd_seg8 (N := 16) (hM.get 0 rfl) rfl hk_h.s0.2.1) (by have := phrZ_len p;omega) (by have hl_q : h.s0.2.2.1.length = 16 := hk_h.s0.2.1;omega)) rfl ?_
      rintro e w10 ⟨v68,rfl,hN⟩
      refine ⟨_,rfl,hN.sta0 _,?_⟩;clear hE a;intro a hE
      replace hM : Mem _ _ w10 [_,_,_,_,_,_,_] := hM.call0 hN ⟨rfl,trivial⟩;clear hN
      replace hM := Mem.ownWB (p := keyZ (phrZ p) h.s0.2.2.1 h.s0.2.1) (q := kK p h.s0.2.2.1 h.s0.2.1) hM (by simp [keyZ,phrZ,kK,hop,hor])
      refine s_move hE rfl rfl ?_;clear hE a;intro a hE
      refine s_extract hE rfl rfl rfl ?_;clear hE a;intro a hE
      refine s_extract hE rfl rfl rfl ?_;clear hE a;intro a hE
      refine s_assign hE rfl rfl ?_;clear hE a;intro a hE
      refine s_assign hE rfl rfl ?_;clear hE a;intro a hE
      refine q_nil ?_
      replace hE : Env a 112 [(1,_),(2,_),(4,_),(5,_),(6,_),(7,_),(8,_),(10,_),(11,_),(12,_),(13,_),(18,_),(28,_),(41,_),(43,_),(61,_)] := hE.sel [1,2,4,5,6,7,8,10,11,12,13,18,28,41,43,61] rfl
      refine hK18 _ _ ?_
      refine wp_seq_k (fun K19 hK19 => ?_)
      refine wp_seq_k (fun K20 hK20 => ?_)
      refine wp_plain [true,true,true,true,true,true,true] rfl rfl ?_
      refine s_move hE rfl rfl ?_;clear hE a;intro a hE
      refine s_bin hE rfl rfl bin_neq rfl ?_;clear hE a;intro a hE
      refine s_move hE rfl rfl ?_;clear hE a;intro a hE
      replace hE := hE.cast 73 rfl (show _ = Value.bool false from (congrArg Value.bool (by rw [roundE_zero.2 hor];rfl)))
      refine g_yes hE rfl rfl ?_
      refine s_move hE rfl rfl ?_;clear hE a;intro a hE
      refine g_yes hE rfl rfl ?_
      refine s_len hE rfl Tryd.underlying42 (ownW_slice (hM.get 0 rfl)) rfl ?_;clear hE a;intro a hE
      replace hE := hE.cast 75 rfl (show _ = Value.int .i64 ((32 : Nat) : Int) from (congrArg (fun n : Nat => Value.int .i64 (n : Int)) (kK_len ..)))
      refine g_yes hE rfl rfl ?_
      refine s_bin hE rfl rfl bin_neq rfl ?_;clear hE a;intro a hE
      replace hE := hE.cast 76 rfl (show _ = Value.bool false from (congrArg Value.bool (by decide)))
      refine s_pickf hE rfl rfl rfl ?_;clear hE a;intro a hE
      refine q_nil ?_
      replace hE : Env a 112 [(1,_),(2,_),(4,_),(5,_),(6,_),(7,_),(8,_),(10,_),(11,_),(12,_),(13,_),(18,_),(28,_),(41,_),(43,_),(61,_),(77,_)] := hE.sel [1,2,4,5,6,7,8,10,11,12,13,18,28,41,43,61,77] rfl
      refine hK20 _ _ ?_
      refine wp_cond_false (hE.eval rfl) ?_
      refine wp_skip ?_
      refine hK19 _ _ ?_
      refine wp_seq_j (fun a w' => ∃ (b14 : Nat),Env a 112 [(1,.string (str p)),(2,.pointer (some ⟨b2,0,none⟩)),(4,.bool false),(5,.pointer (some ⟨b5,0,none⟩)),(6,.int .i64 0),(7,.int .i64 12),(8,v37),(10,.int .i64 0),(11,.pointer (some ⟨b11,0,none⟩)),(12,v68),(13,.int .i64 ((roundE h.s0.2.1 : Nat) : Int)),(14,.pointer (some ⟨b14,0,none⟩)),(15,.int .i64 ((unwE (kK p h.s0.2.2.1 h.s0.2.1) [115,108,111,116] 0 h.s0.2.2.2.1 h.s0.2.2.2.2 : Nat) : Int)),(18,.bool false),(28,.bool false),(41,.bool false),(43,.bool true),(61,.bool false),(77,.bool false)] ∧ Mem w [] w' [blk b14 [bv (unwK (kK p h.s0.2.2.1 h.s0.2.1) [115,108,111,116] 0 h.s0.2.2.2.1 h.s0.2.2.2.2)] [32] 23,ownW v68 1 (kK p h.s0.2.2.1 h.s0.2.1).length (bv (kK p h.s0.2.2.1 h.s0.2.1)),blk b11 [[.bool h.s0.1],[.int .i64 h.s0.2.1],bv h.s0.2.2.1,bv h.s0.2.2.2.1,bv h.s0.2.2.2.2] [1,1,16,32,32] 59,blk b5 [bv (List.replicate 32 0)] [32] 23,own v37 1 (phrZ p).length (bv (phrZ p)),blk b2 [[.int .i64 h.m],[.int .i64 h.r],[.bool h.v0.1],[.int .u64 ((h.v0.2.1 : Nat) : Int)],bv h.v0.2.2.1,bv h.v0.2.2.2,[.bool h.v1.1],[.int .u64 ((h.v1.2.1 : Nat) : Int)],bv h.v1.2.2.1,bv h.v1.2.2.2,[.bool h.s0.1],[.int .i64 h.s0.2.1],bv h.s0.2.2.1,bv h.s0.2.2.2.1,bv h.s0.2.2.2.2,[.bool h.s1.1],[.int .i64 h.s1.2.1],bv h.s1.2.2.1,bv h.s1.2.2.2.1,bv h.s1.2.2.2.2,[.bool h.s2.1],[.int .i64 h.s2.2.1],bv h.s2.2.2.1,bv h.s2.2.2.2.1,bv h.s2.2.2.2.2,[.bool h.s3.1],[.int .i64 h.s3.2.1],bv h.s3.2.2.1,bv h.s3.2.2.2.1,bv h.s3.2.2.2.2] [1,1,1,1,32,32,1,1,32,32,1,1,16,32,32,1,1,16,32,32,1,1,16,32,32,1,1,16,32,32] 62,glb 1,tabP]) ?_ ?_
      ·refine wp_treeM hM (by kernel_rfl) (fun _ => True) (fun _ => True) (.re [(0,true),(1,true),(3,true),(2,true),(4,true),(5,false),(6,true),(7,true),(8,true),(9,false),(10,false),(11,true)] (.fl 3 (.weak (.fl 2 (.or 5 (.re [(6,true),(7,true),(8,true),(9,false),(10,false),(11,true)] (.fl 3 (.fl 0 (.or 9 (.re [(10,false),(11,true)] (.fl 0 (.fl 0 (.or 10 (.cut (.re [(11,true)] (.weak (.leaf 1)))) (.stop))))) (.stop))))) (.or 9 (.cut (.re [(5,false),(6,true),(7,true),(8,true),(10,false),(11,true)] (.fl 0 (.fl 0 (.or 5 (.re [(6,true),(7,true),(8,true),(10,false),(11,true)] (.fl 3 (.fl 0 (.weak (.or 10 (.cut (.re [(11,true)] (.weak (.leaf 1)))) (.stop)))))) (.stop)))))) (.stop))))))) [(0,true),(1,true),(3,true),(2,true),(4,true),(5,false),(6,true),(7,true),(8,true),(9,false),(10,false),(11,true)] [(1,[(2,1),(5,2),(6,5),(7,6),(8,6),(10,1),(11,1)]),(2,[(5,2),(6,5),(7,6),(8,6),(10,2),(11,2)]),(3,[(4,3),(5,4),(6,5),(7,6),(8,6),(10,3),(11,3)]),(4,[(5,4),(6,5),(7,6),(8,6),(10,4),(11,4)]),(5,[(6,5),(7,6),(8,6),(10,5),(11,5)]),(7,[(10,7),(11,7)]),(8,[(11,8)]),(9,[(10,9),(11,9)]),(10,[(11,10)])] (by kernel_rfl) ?_
       intro w11 hM' hww11;clear hM;have hM := hM';clear hM'
       refine o_re ?_
       refine o_fl rfl ?_
       refine s_move hE rfl rfl ?_;clear hE a;intro a hE
       refine s_toArrW hE rfl (hM.get 0 rfl) rfl (kK_len ..) (by decide) Tryd.underlying23 rfl ?_;clear hE a;intro a p80 hE hc80 hv80
       refine s_fieldAddr hE rfl fo59_3 rfl ?_;clear hE a;intro a hE
       refine q_nil (q_nx ?_)
       refine o_weak (fun b => b ≠ b11 ∧ b ∉ valBlocks v68) (fun _ _ => trivial) ?_
       refine o_fl rfl ?_
       refine s_loadAtN hE rfl hc80 (by rw [bv_length,kK_len];exact row23) (by intro X h;cases h;exact fun b hb hx => hx.2 (hv80 b hb)) rfl ?_;clear hE a;intro a hE
       refine s_loadN hE rfl (hM.get 1 rfl) row29 rfl (by intro X h;cases h;simp) rfl ?_;clear hE a;intro a hE
       replace hE := hE.cast 83 rfl (show _ = Value.agg ([bv h.s0.2.2.2.1,bv h.s0.2.2.2.2] : List (List Value)).flatten.toArray from (by first | rfl | simp only [List.flatten_cons,List.flatten_nil,List.append_nil,List.append_assoc]))
       refine q_nil (q_nx ?_)
       refine o_or rfl ?_ ?_
       ·refine s_call hE rfl Tryd.call16 (unwrap_c (kK p h.s0.2.2.1 h.s0.2.1) [115,108,111,116] 0 h.s0.2.2.2.1 h.s0.2.2.2.2 _ (hM.get 5 rfl) (hM.get 6 rfl) (kK_len ..) hk_h.s0.2.2.1 hk_h.s0.2.2.2 (by have hl_0 : (kK p h.s0.2.2.1 h.s0.2.1).length = 32 := (kK_len ..);have hl_1 : [115,108,111,116].length = 4 := (by first | (simp;done) | (simp [*];done) | (simp;omega));have hl_3d : h.s0.2.2.2.1.length = 32 := hk_h.s0.2.2.1;have hl_3t : h.s0.2.2.2.2.length = 32 := hk_h.s0.2.2.2;first | omega | assumption | (simp;done) | (simp;omega) | decide) (by have hl_0 : (kK p h.s0.2.2.1 h.s0.2.1).length = 32 := (kK_len ..);have hl_1 : [115,108,111,116].length = 4 := (by first | (simp;done) | (simp [*];done) | (simp;omega));have hl_3d : h.s0.2.2.2.1.length = 32 := hk_h.s0.2.2.1;have hl_3t : h.s0.2.2.2.2.length = 32 := hk_h.s0.2.2.2;first | omega | assumption | (simp;done) | (simp;omega) | decide)) rfl ?_
        rintro e w12 ⟨rfl,hN⟩
        refine ⟨_,rfl,hN.sta0 _,?_⟩;clear hE a;intro a hE
        replace hM : Mem _ _ w12 [_,_,_,_,_,_,_] := hM.call0 hN trivial;clear hN
        refine q_nil (q_nx ?_)
        refine o_re ?_
        refine o_fl rfl ?_
        refine s_move hE rfl rfl ?_;clear hE a;intro a hE
        refine s_extract hE rfl rfl rfl ?_;clear hE a;intro a hE
        refine s_extract hE rfl rfl rfl ?_;clear hE a;intro a hE
        refine q_nil (q_nx ?_)
        refine o_fl rfl ?_
        refine q_nil (q_nx ?_)
        refine o_or rfl ?_ ?_
        ·refine s_alloc [32] hE hM zero23 rfl rfl ?_;clear hE a;intro a b14 w13 hE hM'
         clear hM;have hM := hM';clear hM'
         refine q_nil (q_nx ?_)
         refine o_re ?_
         refine o_fl rfl ?_
         refine q_nil (q_nx ?_)
         refine o_fl rfl ?_
         refine q_nil (q_nx ?_)
         refine o_or rfl ?_ ?_
         ·refine s_storeSeg 0 hE rfl rfl hM rfl sz23 ((bv_length _).trans (unwK_len (k := (kK p h.s0.2.2.1 h.s0.2.1)) (l := [115,108,111,116]) (n := 0) (d := h.s0.2.2.2.1) (t := h.s0.2.2.2.2) (by have hl_std : h.s0.2.2.2.1.length = 32 := hk_h.s0.2.2.1;first | assumption | (simp;done)))) (bv_one _) rfl ((bv_length _).trans (by first | (simp;done) | (simp [*];done) | (simp;omega))) rfl (by intro X h;cases h;exact ⟨fun e => ((apart_of_get hM.apart (i := 0) (j := 2) rfl rfl (by decide)).1 _ (.head _)).1 (by rw [e];exact .head _),fun hv => ((apart_of_get hM.apart (i := 0) (j := 1) rfl rfl (by decide)).1 _ (.head _)).1 hv⟩) ?_;intro w14 hM';clear hM;have hM := hM';clear hM'
          simp only [List.set_cons_zero,List.set_cons_succ] at hM
          refine q_nil (q_nx ?_)
          refine o_cut (fun _ => True) ?_
          refine o_re ?_
          refine o_weak (fun _ => False) (fun _ _ => trivial) ?_
          refine o_leaf rfl rfl ?_
          refine s_assign hE rfl rfl ?_;clear hE a;intro a hE
          refine q_nil (q_ph (q_nil ?_))
          replace hE : Env a 112 [(1,_),(2,_),(4,_),(5,_),(6,_),(7,_),(8,_),(10,_),(11,_),(12,_),(13,_),(14,_),(15,_),(18,_),(28,_),(41,_),(43,_),(61,_),(77,_)] := hE.sel [1,2,4,5,6,7,8,10,11,12,13,14,15,18,28,41,43,61,77] rfl
          replace hM : Mem _ _ w14 [_,_,_,_,_,_,_,_] := hM.pick [0,1,2,3,4,5,6,7] rfl
          refine q_then_n ⟨_,hE.sel [1,2,4,5,6,7,8,10,11,12,13,14,15,18,28,41,43,61,77] rfl,hM⟩
         trivial
        trivial
       refine o_or rfl ?_ ?_
       ·refine s_alloc [32] hE hM zero23 rfl rfl ?_;clear hE a;intro a b14 w12 hE hM'
        clear hM;have hM := hM';clear hM'
        refine q_nil (q_nx ?_)
        refine o_cut (fun _ => True) ?_
        refine o_re ?_
        refine o_fl rfl ?_
        refine q_nil (q_nx ?_)
        refine o_fl rfl ?_
        refine q_nil (q_nx ?_)
        refine o_or rfl ?_ ?_
        ·refine s_call hE rfl Tryd.call16 (unwrap_c (kK p h.s0.2.2.1 h.s0.2.1) [115,108,111,116] 0 h.s0.2.2.2.1 h.s0.2.2.2.2 _ (hM.get 6 rfl) (hM.get 7 rfl) (kK_len ..) hk_h.s0.2.2.1 hk_h.s0.2.2.2 (by have hl_0 : (kK p h.s0.2.2.1 h.s0.2.1).length = 32 := (kK_len ..);have hl_1 : [115,108,111,116].length = 4 := (by first | (simp;done) | (simp [*];done) | (simp;omega));have hl_3d : h.s0.2.2.2.1.length = 32 := hk_h.s0.2.2.1;have hl_3t : h.s0.2.2.2.2.length = 32 := hk_h.s0.2.2.2;first | omega | assumption | (simp;done) | (simp;omega) | decide) (by have hl_0 : (kK p h.s0.2.2.1 h.s0.2.1).length = 32 := (kK_len ..);have hl_1 : [115,108,111,116].length = 4 := (by first | (simp;done) | (simp [*];done) | (simp;omega));have hl_3d : h.s0.2.2.2.1.length = 32 := hk_h.s0.2.2.1;have hl_3t : h.s0.2.2.2.2.length = 32 := hk_h.s0.2.2.2;first | omega | assumption | (simp;done) | (simp;omega) | decide)) rfl ?_
         rintro e w13 ⟨rfl,hN⟩
         refine ⟨_,rfl,hN.sta0 _,?_⟩;clear hE a;intro a hE
         replace hM : Mem _ _ w13 [_,_,_,_,_,_,_,_] := hM.call0 hN trivial;clear hN
         refine q_nil (q_nx ?_)
         refine o_re ?_
         refine o_fl rfl ?_
         refine s_move hE rfl rfl ?_;clear hE a;intro a hE
         refine s_extract hE rfl rfl rfl ?_;clear hE a;intro a hE
         refine s_extract hE rfl rfl rfl ?_;clear hE a;intro a hE
         refine q_nil (q_nx ?_)
         refine o_fl rfl ?_
         refine q_nil (q_nx ?_)
         refine o_weak (fun b => b = b14) (fun _ _ => trivial) ?_
         refine o_or rfl ?_ ?_
         ·refine s_storeSeg 0 hE rfl rfl hM rfl sz23 ((bv_length _).trans (unwK_len (k := (kK p h.s0.2.2.1 h.s0.2.1)) (l := [115,108,111,116]) (n := 0) (d := h.s0.2.2.2.1) (t := h.s0.2.2.2.2) (by have hl_std : h.s0.2.2.2.1.length = 32 := hk_h.s0.2.2.1;first | assumption | (simp;done)))) (bv_one _) rfl ((bv_length _).trans (by first | (simp;done) | (simp [*];done) | (simp;omega))) rfl (by intro X h;cases h;rfl) ?_;intro w14 hM';clear hM;have hM := hM';clear hM'
          simp only [List.set_cons_zero,List.set_cons_succ] at hM
          refine q_nil (q_nx ?_)
          refine o_cut (fun _ => True) ?_
          refine o_re ?_
          refine o_weak (fun _ => False) (fun _ _ => trivial) ?_
          refine o_leaf rfl rfl ?_
          refine s_assign hE rfl rfl ?_;clear hE a;intro a hE
          refine q_nil (q_ph (q_nil ?_))
          replace hE : Env a 112 [(1,_),(2,_),(4,_),(5,_),(6,_),(7,_),(8,_),(10,_),(11,_),(12,_),(13,_),(14,_),(15,_),(18,_),(28,_),(41,_),(43,_),(61,_),(77,_)] := hE.sel [1,2,4,5,6,7,8,10,11,12,13,14,15,18,28,41,43,61,77] rfl
          replace hM : Mem _ _ w14 [_,_,_,_,_,_,_,_] := hM.pick [0,1,2,3,4,5,6,7] rfl
          refine q_then_n ⟨_,hE.sel [1,2,4,5,6,7,8,10,11,12,13,14,15,18,28,41,43,61,77] rfl,hM⟩
         trivial
        trivial
       trivial
      clear hE hM a;rintro a w15 ⟨b14,hE,hM⟩
      refine wp_seq_k (fun K21 hK21 => ?_)
      refine wp_plain [true,true,true,true,true,true,true] rfl rfl ?_
      refine s_move hE rfl rfl ?_;clear hE a;intro a hE
      refine s_bin hE rfl rfl bin_eql rfl ?_;clear hE a;intro a hE
      replace hE := hE.cast 88 rfl (show _ = Value.bool false from (congrArg Value.bool (by decide)))
      refine s_move hE rfl rfl ?_;clear hE a;intro a hE
      refine g_no (b := false) hE rfl rfl rfl ?_;clear hE a;intro a hE
      refine g_no (b := false) hE rfl rfl rfl ?_;clear hE a;intro a hE
      refine g_no (b := false) hE rfl rfl rfl ?_;clear hE a;intro a hE
      refine s_pickf hE rfl rfl rfl ?_;clear hE a;intro a hE
      refine q_nil ?_
      replace hE : Env a 112 [(1,_),(2,_),(4,_),(5,_),(6,_),(7,_),(8,_),(10,_),(11,_),(12,_),(13,_),(14,_),(15,_),(18,_),(28,_),(41,_),(43,_),(61,_),(77,_),(93,_)] := hE.sel [1,2,4,5,6,7,8,10,11,12,13,14,15,18,28,41,43,61,77,93] rfl
      refine hK21 _ _ ?_
      refine wp_cond_false (hE.eval rfl) ?_
      refine wp_seq_k (fun K22 hK22 => ?_)
      refine wp_plain [true,true] rfl rfl ?_
      refine s_move hE rfl rfl ?_;clear hE a;intro a hE
      refine s_bin hE rfl rfl bin_eql rfl ?_;clear hE a;intro a hE
      refine q_nil ?_
      replace hE : Env a 112 [(1,_),(2,_),(4,_),(5,_),(6,_),(7,_),(8,_),(10,_),(11,_),(12,_),(13,_),(14,_),(15,_),(18,_),(28,_),(41,_),(43,_),(61,_),(77,_),(93,_),(102,_)] := hE.sel [1,2,4,5,6,7,8,10,11,12,13,14,15,18,28,41,43,61,77,93,102] rfl
      refine hK22 _ _ ?_
      replace hE := hE.cast 102 rfl (show _ = Value.bool false from (congrArg Value.bool (decide_eq_false (by have hw1 := op_ne hu1 (show opS p h.s0 = false from hqn 0 (by decide));simp only [slotT] at hw1;omega))))
      refine wp_cond_false (hE.eval rfl) ?_
      refine wp_skip ?_
      refine q_block_n ?_
      refine hK14 _ _ ?_
      refine wp_plain [true,true,true] rfl rfl ?_
      refine s_move hE rfl rfl ?_;clear hE a;intro a hE
      refine s_bin hE rfl rfl (show Bin _ _ _ _ _ (.int .i64 1) from bin_add (by rw [wrap_i64 (by omega) (by omega)];omega)) rfl ?_;clear hE a;intro a hE
      refine s_assign hE rfl rfl ?_;clear hE a;intro a hE
      refine q_nil ?_
      replace hE : Env a 112 [(1,_),(2,_),(4,_),(5,_),(6,_),(7,_),(8,_),(10,_),(11,_),(12,_),(13,_),(14,_),(15,_),(18,_),(28,_),(41,_),(43,_),(61,_),(77,_),(93,_),(102,_)] := hE.sel [1,2,4,5,6,7,8,10,11,12,13,14,15,18,28,41,43,61,77,93,102] rfl
      replace hM : Mem _ _ w15 [_,_,_,_,_] := hM.pick [3,4,5,6,7] rfl
      refine q_then_n ⟨trivial,hE.sel [1,2,4,5,6,7,8,10,18,28,41] rfl,hM⟩
    clear hE hM a;rintro a w7 ⟨hJ10_0,hE,hM⟩
    refine c_roundsJ (fun a w' => True ∧ Env a 112 [(1,.string (str p)),(2,.pointer (some ⟨b2,0,none⟩)),(4,.bool false),(5,.pointer (some ⟨b5,0,none⟩)),(6,.int .i64 0),(7,.int .i64 12),(8,v37),(10,.int .i64 2),(18,.bool false),(28,.bool false),(41,.bool false)] ∧ Mem w [] w' [blk b5 [bv (List.replicate 32 0)] [32] 23,own v37 1 (phrZ p).length (bv (phrZ p)),blk b2 [[.int .i64 h.m],[.int .i64 h.r],[.bool h.v0.1],[.int .u64 ((h.v0.2.1 : Nat) : Int)],bv h.v0.2.2.1,bv h.v0.2.2.2,[.bool h.v1.1],[.int .u64 ((h.v1.2.1 : Nat) : Int)],bv h.v1.2.2.1,bv h.v1.2.2.2,[.bool h.s0.1],[.int .i64 h.s0.2.1],bv h.s0.2.2.1,bv h.s0.2.2.2.1,bv h.s0.2.2.2.2,[.bool h.s1.1],[.int .i64 h.s1.2.1],bv h.s1.2.2.1,bv h.s1.2.2.2.1,bv h.s1.2.2.2.2,[.bool h.s2.1],[.int .i64 h.s2.2.1],bv h.s2.2.2.1,bv h.s2.2.2.2.1,bv h.s2.2.2.2.2,[.bool h.s3.1],[.int .i64 h.s3.2.1],bv h.s3.2.2.1,bv h.s3.2.2.2.1,bv h.s3.2.2.2.2] [1,1,1,1,32,32,1,1,32,32,1,1,16,32,32,1,1,16,32,32,1,1,16,32,32,1,1,16,32,32] 62,glb 1,tabP]) ?_ ?_
    ·skip
     refine wp_seq_k (fun K12 hK12 => ?_)
     refine wp_seq_k (fun K13 hK13 => ?_)
     refine wp_plain [true,true] rfl rfl ?_
     refine s_move hE rfl rfl ?_;clear hE a;intro a hE
     refine s_bin hE rfl rfl bin_lss rfl ?_;clear hE a;intro a hE
     replace hE := hE.cast 43 rfl (show _ = Value.bool true from (congrArg Value.bool (by decide)))
     refine q_nil ?_
     replace hE : Env a 112 [(1,_),(2,_),(4,_),(5,_),(6,_),(7,_),(8,_),(10,_),(18,_),(28,_),(41,_),(43,_)] := hE.sel [1,2,4,5,6,7,8,10,18,28,41,43] rfl
     refine hK13 _ _ ?_
     refine wp_cond_true (hE.eval rfl) ?_
     refine wp_skip ?_
     refine hK12 _ _ ?_
     refine wp_seq_k (fun K14 hK14 => ?_)
     refine wp_block ?_
     refine wp_seq_k (fun K15 hK15 => ?_)
     refine wp_plain [true,true,true,true,false,false] rfl rfl ?_
     refine s_move hE rfl rfl ?_;clear hE a;intro a hE
     refine s_fieldAddr hE rfl fo62_2 rfl ?_;clear hE a;intro a hE
     refine s_indexArr (j := 1) hE rfl rfl arr60 rfl (by decide) rfl ?_;clear hE a;intro a hE
     refine s_loadN hE rfl (hM.get 2 rfl) row59 rfl (by intro X h;cases h) rfl ?_;clear hE a;intro a hE
     replace hE := hE.cast 49 rfl (show _ = Value.agg ([[.bool h.s1.1],[.int .i64 h.s1.2.1],bv h.s1.2.2.1,bv h.s1.2.2.2.1,bv h.s1.2.2.2.2] : List (List Value)).flatten.toArray from (by first | rfl | simp only [List.flatten_cons,List.flatten_nil,List.append_nil,List.append_assoc]))
     refine s_alloc [1,1,16,32,32] hE hM zeroL59 rfl rfl ?_;clear hE a;intro a b11 w8 hE hM'
     clear hM;have hM := hM';clear hM'
     have hsl1839_2 : h.s1.2.2.1.length = 16 := hk_h.s1.2.1
     have hsl1839_3 : h.s1.2.2.2.1.length = 32 := hk_h.s1.2.2.1
     have hsl1839_4 : h.s1.2.2.2.2.length = 32 := hk_h.s1.2.2.2
     refine s_storeSegs 0 5 (vss := [[.bool h.s1.1],[.int .i64 h.s1.2.1],bv h.s1.2.2.1,bv h.s1.2.2.2.1,bv h.s1.2.2.2.2]) hE rfl rfl hM rfl sz59 (by simp only [List.take_succ_cons,List.take_zero,List.drop_zero,List.drop_succ_cons];simp only [List.map_cons,List.map_nil,bv_length,List.length_cons,List.length_nil,List.length_replicate,hsl1839_2,hsl1839_3,hsl1839_4]) (by decide) rfl (one_fl ⟨one1 rfl,one1 rfl,bv_one _,bv_one _,bv_one _,trivial⟩) rfl (by intro X h;cases h) ?_;intro w9 hM';clear hM;have hM := hM';clear hM'
     try simp only [List.take_zero,List.take_succ_cons,List.drop_zero,List.drop_succ_cons,List.take_nil,List.drop_nil,List.nil_append,List.append_nil,List.cons_append] at hM
     refine q_nil ?_
     replace hE : Env a 112 [(1,_),(2,_),(4,_),(5,_),(6,_),(7,_),(8,_),(10,_),(11,_),(18,_),(28,_),(41,_),(43,_)] := hE.sel [1,2,4,5,6,7,8,10,11,18,28,41,43] rfl
     refine hK15 _ _ ?_
     refine wp_seq_k (fun K16 hK16 => ?_)
     refine wp_seq_k (fun K17 hK17 => ?_)
     refine wp_plain [true,true,true,true,true,true,true,true,true,true,true,true] rfl rfl ?_
     refine s_fieldAddr hE rfl fo59_0 rfl ?_;clear hE a;intro a hE
     refine s_load1 hE rfl (hM.get 0 rfl) rfl one4 (by intro X h;cases h) rfl ?_;clear hE a;intro a hE
     refine s_not hE rfl rfl ?_;clear hE a;intro a hE
     refine s_move hE rfl rfl ?_;clear hE a;intro a hE
     refine hE.split 53 rfl (fun hb53 hE' => ?_) (fun hb53 hE' => ?_)
     ·replace hE := hE';clear hE'
      replace hb53 := not_true hb53
      refine g_no (b := true) hE rfl rfl rfl ?_;clear hE a;intro a hE
      refine g_no (b := true) hE rfl rfl rfl ?_;clear hE a;intro a hE
      refine g_no (b := true) hE rfl rfl rfl ?_;clear hE a;intro a hE
      refine g_und hE rfl rfl rfl ?_;clear hE a;intro a hE
      refine g_und hE rfl rfl rfl ?_;clear hE a;intro a hE
      refine g_und hE rfl rfl rfl ?_;clear hE a;intro a hE
      refine g_no (b := true) hE rfl rfl rfl ?_;clear hE a;intro a hE
      refine s_pickt hE rfl rfl rfl ?_;clear hE a;intro a hE
      refine q_nil ?_
      replace hE : Env a 112 [(1,_),(2,_),(4,_),(5,_),(6,_),(7,_),(8,_),(10,_),(11,_),(18,_),(28,_),(41,_),(43,_),(61,_)] := hE.sel [1,2,4,5,6,7,8,10,11,18,28,41,43,61] rfl
      refine hK17 _ _ ?_
      refine wp_cond_true (hE.eval rfl) ?_
      refine wp_exit ?_
      refine q_then_e ?_
      refine q_block_x ?_
      refine hK14 _ _ ?_
      refine wp_plain [true,true,true] rfl rfl ?_
      refine s_move hE rfl rfl ?_;clear hE a;intro a hE
      refine s_bin hE rfl rfl (show Bin _ _ _ _ _ (.int .i64 2) from bin_add (by rw [wrap_i64 (by omega) (by omega)];omega)) rfl ?_;clear hE a;intro a hE
      refine s_assign hE rfl rfl ?_;clear hE a;intro a hE
      refine q_nil ?_
      replace hE : Env a 112 [(1,_),(2,_),(4,_),(5,_),(6,_),(7,_),(8,_),(10,_),(11,_),(18,_),(28,_),(41,_),(43,_),(61,_)] := hE.sel [1,2,4,5,6,7,8,10,11,18,28,41,43,61] rfl
      replace hM : Mem _ _ w9 [_,_,_,_,_] := hM.pick [1,2,3,4,5] rfl
      refine q_then_n ⟨trivial,hE.sel [1,2,4,5,6,7,8,10,18,28,41] rfl,hM⟩
     ·replace hE := hE';clear hE'
      replace hb53 := not_false' hb53
      have hu1 : h.s1.1 = true := by simpa using hb53
      have hor := hc1 hu1
      refine g_yes hE rfl rfl ?_
      refine s_move hE rfl rfl ?_;clear hE a;intro a hE
      refine g_yes hE rfl rfl ?_
      refine s_bin hE rfl rfl bin_eql rfl ?_;clear hE a;intro a hE
      replace hE := hE.cast 55 rfl (show _ = Value.bool false from (congrArg Value.bool (by decide)))
      refine g_yes hE rfl rfl ?_
      refine s_move hE rfl rfl ?_;clear hE a;intro a hE
      refine g_no (b := false) hE rfl rfl rfl ?_;clear hE a;intro a hE
      refine g_no (b := false) hE rfl rfl rfl ?_;clear hE a;intro a hE
      refine g_no (b := false) hE rfl rfl rfl ?_;clear hE a;intro a hE
      refine g_yes hE rfl rfl ?_
      refine s_pickf hE rfl rfl rfl ?_;clear hE a;intro a hE
      refine s_pickf hE rfl rfl rfl ?_;clear hE a;intro a hE
      refine q_nil ?_
      replace hE : Env a 112 [(1,_),(2,_),(4,_),(5,_),(6,_),(7,_),(8,_),(10,_),(11,_),(18,_),(28,_),(41,_),(43,_),(61,_)] := hE.sel [1,2,4,5,6,7,8,10,11,18,28,41,43,61] rfl
      refine hK17 _ _ ?_
      refine wp_cond_false (hE.eval rfl) ?_
      refine wp_skip ?_
      refine hK16 _ _ ?_
      refine wp_seq_k (fun K18 hK18 => ?_)
      refine wp_drawnM hM (by kernel_rfl) (fun _ => False) [(0,true),(1,true),(2,true),(3,true),(4,true),(5,false),(6,true),(7,true),(8,true),(9,true),(10,true)] [(5,[(6,5),(7,6),(8,6),(9,5),(10,5)])] (by kernel_rfl) rfl ?_
      intro w10 hM' hww10;clear hM;have hM := hM';clear hM'
      refine s_move hE rfl rfl ?_;clear hE a;intro a hE
      refine s_fieldAddr hE rfl fo59_2 rfl ?_;clear hE a;intro a hE
      refine s_sliceArr (l := 0) (h := 16) (mx' := 16) hE rfl arr57 rfl rfl rfl (by simp) (by omega) (by omega) (by omega) rfl ?_;clear hE a;intro a hE
      replace hE := hE.cast 65 rfl (show _ = Value.slice (some ⟨b11,2,none⟩) 16 16 from rfl)
      refine s_fieldAddr hE rfl fo59_1 rfl ?_;clear hE a;intro a hE
      refine s_load1 hE rfl (hM.get 0 rfl) rfl one3 (by intro X h;cases h;simp) rfl ?_;clear hE a;intro a hE
      obtain ⟨cq6,hq6⟩ := own_rd (hM.get 2 rfl)
      refine s_call hE rfl Tryd.call31 (pkey_a _ _ (phrZ p) h.s1.2.2.1 _ _ h.s1.2.1 _ (hM.get 4 rfl) hq6 (rd_seg8 (N := 16) (hM.get 0 rfl) rfl hk_h.s1.2.1) (by have := phrZ_len p;omega) (by have hl_q : h.s1.2.2.1.length = 16 := hk_h.s1.2.1;omega)) rfl ?_
      rintro e w11 ⟨v68,rfl,hN⟩
      refine ⟨_,rfl,hN.sta0 _,?_⟩;clear hE a;intro a hE
      replace hM : Mem _ _ w11 [_,_,_,_,_,_,_] := hM.call0 hN ⟨rfl,trivial⟩;clear hN
      replace hM := Mem.ownWB (p := keyZ (phrZ p) h.s1.2.2.1 h.s1.2.1) (q := kK p h.s1.2.2.1 h.s1.2.1) hM (by simp [keyZ,phrZ,kK,hop,hor])
      refine s_move hE rfl rfl ?_;clear hE a;intro a hE
      refine s_extract hE rfl rfl rfl ?_;clear hE a;intro a hE
      refine s_extract hE rfl rfl rfl ?_;clear hE a;intro a hE
      refine s_assign hE rfl rfl ?_;clear hE a;intro a hE
      refine s_assign hE rfl rfl ?_;clear hE a;intro a hE
      refine q_nil ?_
      replace hE : Env a 112 [(1,_),(2,_),(4,_),(5,_),(6,_),(7,_),(8,_),(10,_),(11,_),(12,_),(13,_),(18,_),(28,_),(41,_),(43,_),(61,_)] := hE.sel [1,2,4,5,6,7,8,10,11,12,13,18,28,41,43,61] rfl
      refine hK18 _ _ ?_
      refine wp_seq_k (fun K19 hK19 => ?_)
      refine wp_seq_k (fun K20 hK20 => ?_)
      refine wp_plain [true,true,true,true,true,true,true] rfl rfl ?_
      refine s_move hE rfl rfl ?_;clear hE a;intro a hE
      refine s_bin hE rfl rfl bin_neq rfl ?_;clear hE a;intro a hE
      refine s_move hE rfl rfl ?_;clear hE a;intro a hE
      replace hE := hE.cast 73 rfl (show _ = Value.bool false from (congrArg Value.bool (by rw [roundE_zero.2 hor];rfl)))
      refine g_yes hE rfl rfl ?_
      refine s_move hE rfl rfl ?_;clear hE a;intro a hE
      refine g_yes hE rfl rfl ?_
      refine s_len hE rfl Tryd.underlying42 (ownW_slice (hM.get 0 rfl)) rfl ?_;clear hE a;intro a hE
      replace hE := hE.cast 75 rfl (show _ = Value.int .i64 ((32 : Nat) : Int) from (congrArg (fun n : Nat => Value.int .i64 (n : Int)) (kK_len ..)))
      refine g_yes hE rfl rfl ?_
      refine s_bin hE rfl rfl bin_neq rfl ?_;clear hE a;intro a hE
      replace hE := hE.cast 76 rfl (show _ = Value.bool false from (congrArg Value.bool (by decide)))
      refine s_pickf hE rfl rfl rfl ?_;clear hE a;intro a hE
      refine q_nil ?_
      replace hE : Env a 112 [(1,_),(2,_),(4,_),(5,_),(6,_),(7,_),(8,_),(10,_),(11,_),(12,_),(13,_),(18,_),(28,_),(41,_),(43,_),(61,_),(77,_)] := hE.sel [1,2,4,5,6,7,8,10,11,12,13,18,28,41,43,61,77] rfl
      refine hK20 _ _ ?_
      refine wp_cond_false (hE.eval rfl) ?_
      refine wp_skip ?_
      refine hK19 _ _ ?_
      refine wp_seq_j (fun a w' => ∃ (b14 : Nat),Env a 112 [(1,.string (str p)),(2,.pointer (some ⟨b2,0,none⟩)),(4,.bool false),(5,.pointer (some ⟨b5,0,none⟩)),(6,.int .i64 0),(7,.int .i64 12),(8,v37),(10,.int .i64 1),(11,.pointer (some ⟨b11,0,none⟩)),(12,v68),(13,.int .i64 ((roundE h.s1.2.1 : Nat) : Int)),(14,.pointer (some ⟨b14,0,none⟩)),(15,.int .i64 ((unwE (kK p h.s1.2.2.1 h.s1.2.1) [115,108,111,116] 0 h.s1.2.2.2.1 h.s1.2.2.2.2 : Nat) : Int)),(18,.bool false),(28,.bool false),(41,.bool false),(43,.bool true),(61,.bool false),(77,.bool false)] ∧ Mem w [] w' [blk b14 [bv (unwK (kK p h.s1.2.2.1 h.s1.2.1) [115,108,111,116] 0 h.s1.2.2.2.1 h.s1.2.2.2.2)] [32] 23,ownW v68 1 (kK p h.s1.2.2.1 h.s1.2.1).length (bv (kK p h.s1.2.2.1 h.s1.2.1)),blk b11 [[.bool h.s1.1],[.int .i64 h.s1.2.1],bv h.s1.2.2.1,bv h.s1.2.2.2.1,bv h.s1.2.2.2.2] [1,1,16,32,32] 59,blk b5 [bv (List.replicate 32 0)] [32] 23,own v37 1 (phrZ p).length (bv (phrZ p)),blk b2 [[.int .i64 h.m],[.int .i64 h.r],[.bool h.v0.1],[.int .u64 ((h.v0.2.1 : Nat) : Int)],bv h.v0.2.2.1,bv h.v0.2.2.2,[.bool h.v1.1],[.int .u64 ((h.v1.2.1 : Nat) : Int)],bv h.v1.2.2.1,bv h.v1.2.2.2,[.bool h.s0.1],[.int .i64 h.s0.2.1],bv h.s0.2.2.1,bv h.s0.2.2.2.1,bv h.s0.2.2.2.2,[.bool h.s1.1],[.int .i64 h.s1.2.1],bv h.s1.2.2.1,bv h.s1.2.2.2.1,bv h.s1.2.2.2.2,[.bool h.s2.1],[.int .i64 h.s2.2.1],bv h.s2.2.2.1,bv h.s2.2.2.2.1,bv h.s2.2.2.2.2,[.bool h.s3.1],[.int .i64 h.s3.2.1],bv h.s3.2.2.1,bv h.s3.2.2.2.1,bv h.s3.2.2.2.2] [1,1,1,1,32,32,1,1,32,32,1,1,16,32,32,1,1,16,32,32,1,1,16,32,32,1,1,16,32,32] 62,glb 1,tabP]) ?_ ?_
      ·refine wp_treeM hM (by kernel_rfl) (fun _ => True) (fun _ => True) (.re [(0,true),(1,true),(3,true),(2,true),(4,true),(5,false),(6,true),(7,true),(8,true),(9,false),(10,false),(11,true)] (.fl 3 (.weak (.fl 2 (.or 5 (.re [(6,true),(7,true),(8,true),(9,false),(10,false),(11,true)] (.fl 3 (.fl 0 (.or 9 (.re [(10,false),(11,true)] (.fl 0 (.fl 0 (.or 10 (.cut (.re [(11,true)] (.weak (.leaf 1)))) (.stop))))) (.stop))))) (.or 9 (.cut (.re [(5,false),(6,true),(7,true),(8,true),(10,false),(11,true)] (.fl 0 (.fl 0 (.or 5 (.re [(6,true),(7,true),(8,true),(10,false),(11,true)] (.fl 3 (.fl 0 (.weak (.or 10 (.cut (.re [(11,true)] (.weak (.leaf 1)))) (.stop)))))) (.stop)))))) (.stop))))))) [(0,true),(1,true),(3,true),(2,true),(4,true),(5,false),(6,true),(7,true),(8,true),(9,false),(10,false),(11,true)] [(1,[(2,1),(5,2),(6,5),(7,6),(8,6),(10,1),(11,1)]),(2,[(5,2),(6,5),(7,6),(8,6),(10,2),(11,2)]),(3,[(4,3),(5,4),(6,5),(7,6),(8,6),(10,3),(11,3)]),(4,[(5,4),(6,5),(7,6),(8,6),(10,4),(11,4)]),(5,[(6,5),(7,6),(8,6),(10,5),(11,5)]),(7,[(10,7),(11,7)]),(8,[(11,8)]),(9,[(10,9),(11,9)]),(10,[(11,10)])] (by kernel_rfl) ?_
       intro w12 hM' hww12;clear hM;have hM := hM';clear hM'
       refine o_re ?_
       refine o_fl rfl ?_
       refine s_move hE rfl rfl ?_;clear hE a;intro a hE
       refine s_toArrW hE rfl (hM.get 0 rfl) rfl (kK_len ..) (by decide) Tryd.underlying23 rfl ?_;clear hE a;intro a p80 hE hc80 hv80
       refine s_fieldAddr hE rfl fo59_3 rfl ?_;clear hE a;intro a hE
       refine q_nil (q_nx ?_)
       refine o_weak (fun b => b ≠ b11 ∧ b ∉ valBlocks v68) (fun _ _ => trivial) ?_
       refine o_fl rfl ?_
       refine s_loadAtN hE rfl hc80 (by rw [bv_length,kK_len];exact row23) (by intro X h;cases h;exact fun b hb hx => hx.2 (hv80 b hb)) rfl ?_;clear hE a;intro a hE
       refine s_loadN hE rfl (hM.get 1 rfl) row29 rfl (by intro X h;cases h;simp) rfl ?_;clear hE a;intro a hE
       replace hE := hE.cast 83 rfl (show _ = Value.agg ([bv h.s1.2.2.2.1,bv h.s1.2.2.2.2] : List (List Value)).flatten.toArray from (by first | rfl | simp only [List.flatten_cons,List.flatten_nil,List.append_nil,List.append_assoc]))
       refine q_nil (q_nx ?_)
       refine o_or rfl ?_ ?_
       ·refine s_call hE rfl Tryd.call16 (unwrap_c (kK p h.s1.2.2.1 h.s1.2.1) [115,108,111,116] 0 h.s1.2.2.2.1 h.s1.2.2.2.2 _ (hM.get 5 rfl) (hM.get 6 rfl) (kK_len ..) hk_h.s1.2.2.1 hk_h.s1.2.2.2 (by have hl_0 : (kK p h.s1.2.2.1 h.s1.2.1).length = 32 := (kK_len ..);have hl_1 : [115,108,111,116].length = 4 := (by first | (simp;done) | (simp [*];done) | (simp;omega));have hl_3d : h.s1.2.2.2.1.length = 32 := hk_h.s1.2.2.1;have hl_3t : h.s1.2.2.2.2.length = 32 := hk_h.s1.2.2.2;first | omega | assumption | (simp;done) | (simp;omega) | decide) (by have hl_0 : (kK p h.s1.2.2.1 h.s1.2.1).length = 32 := (kK_len ..);have hl_1 : [115,108,111,116].length = 4 := (by first | (simp;done) | (simp [*];done) | (simp;omega));have hl_3d : h.s1.2.2.2.1.length = 32 := hk_h.s1.2.2.1;have hl_3t : h.s1.2.2.2.2.length = 32 := hk_h.s1.2.2.2;first | omega | assumption | (simp;done) | (simp;omega) | decide)) rfl ?_
        rintro e w13 ⟨rfl,hN⟩
        refine ⟨_,rfl,hN.sta0 _,?_⟩;clear hE a;intro a hE
        replace hM : Mem _ _ w13 [_,_,_,_,_,_,_] := hM.call0 hN trivial;clear hN
        refine q_nil (q_nx ?_)
        refine o_re ?_
        refine o_fl rfl ?_
        refine s_move hE rfl rfl ?_;clear hE a;intro a hE
        refine s_extract hE rfl rfl rfl ?_;clear hE a;intro a hE
        refine s_extract hE rfl rfl rfl ?_;clear hE a;intro a hE
        refine q_nil (q_nx ?_)
        refine o_fl rfl ?_
        refine q_nil (q_nx ?_)
        refine o_or rfl ?_ ?_
        ·refine s_alloc [32] hE hM zero23 rfl rfl ?_;clear hE a;intro a b14 w14 hE hM'
         clear hM;have hM := hM';clear hM'
         refine q_nil (q_nx ?_)
         refine o_re ?_
         refine o_fl rfl ?_
         refine q_nil (q_nx ?_)
         refine o_fl rfl ?_
         refine q_nil (q_nx ?_)
         refine o_or rfl ?_ ?_
         ·refine s_storeSeg 0 hE rfl rfl hM rfl sz23 ((bv_length _).trans (unwK_len (k := (kK p h.s1.2.2.1 h.s1.2.1)) (l := [115,108,111,116]) (n := 0) (d := h.s1.2.2.2.1) (t := h.s1.2.2.2.2) (by have hl_std : h.s1.2.2.2.1.length = 32 := hk_h.s1.2.2.1;first | assumption | (simp;done)))) (bv_one _) rfl ((bv_length _).trans (by first | (simp;done) | (simp [*];done) | (simp;omega))) rfl (by intro X h;cases h;exact ⟨fun e => ((apart_of_get hM.apart (i := 0) (j := 2) rfl rfl (by decide)).1 _ (.head _)).1 (by rw [e];exact .head _),fun hv => ((apart_of_get hM.apart (i := 0) (j := 1) rfl rfl (by decide)).1 _ (.head _)).1 hv⟩) ?_;intro w15 hM';clear hM;have hM := hM';clear hM'
          simp only [List.set_cons_zero,List.set_cons_succ] at hM
          refine q_nil (q_nx ?_)
          refine o_cut (fun _ => True) ?_
          refine o_re ?_
          refine o_weak (fun _ => False) (fun _ _ => trivial) ?_
          refine o_leaf rfl rfl ?_
          refine s_assign hE rfl rfl ?_;clear hE a;intro a hE
          refine q_nil (q_ph (q_nil ?_))
          replace hE : Env a 112 [(1,_),(2,_),(4,_),(5,_),(6,_),(7,_),(8,_),(10,_),(11,_),(12,_),(13,_),(14,_),(15,_),(18,_),(28,_),(41,_),(43,_),(61,_),(77,_)] := hE.sel [1,2,4,5,6,7,8,10,11,12,13,14,15,18,28,41,43,61,77] rfl
          replace hM : Mem _ _ w15 [_,_,_,_,_,_,_,_] := hM.pick [0,1,2,3,4,5,6,7] rfl
          refine q_then_n ⟨_,hE.sel [1,2,4,5,6,7,8,10,11,12,13,14,15,18,28,41,43,61,77] rfl,hM⟩
         trivial
        trivial
       refine o_or rfl ?_ ?_
       ·refine s_alloc [32] hE hM zero23 rfl rfl ?_;clear hE a;intro a b14 w13 hE hM'
        clear hM;have hM := hM';clear hM'
        refine q_nil (q_nx ?_)
        refine o_cut (fun _ => True) ?_
        refine o_re ?_
        refine o_fl rfl ?_
        refine q_nil (q_nx ?_)
        refine o_fl rfl ?_
        refine q_nil (q_nx ?_)
        refine o_or rfl ?_ ?_
        ·refine s_call hE rfl Tryd.call16 (unwrap_c (kK p h.s1.2.2.1 h.s1.2.1) [115,108,111,116] 0 h.s1.2.2.2.1 h.s1.2.2.2.2 _ (hM.get 6 rfl) (hM.get 7 rfl) (kK_len ..) hk_h.s1.2.2.1 hk_h.s1.2.2.2 (by have hl_0 : (kK p h.s1.2.2.1 h.s1.2.1).length = 32 := (kK_len ..);have hl_1 : [115,108,111,116].length = 4 := (by first | (simp;done) | (simp [*];done) | (simp;omega));have hl_3d : h.s1.2.2.2.1.length = 32 := hk_h.s1.2.2.1;have hl_3t : h.s1.2.2.2.2.length = 32 := hk_h.s1.2.2.2;first | omega | assumption | (simp;done) | (simp;omega) | decide) (by have hl_0 : (kK p h.s1.2.2.1 h.s1.2.1).length = 32 := (kK_len ..);have hl_1 : [115,108,111,116].length = 4 := (by first | (simp;done) | (simp [*];done) | (simp;omega));have hl_3d : h.s1.2.2.2.1.length = 32 := hk_h.s1.2.2.1;have hl_3t : h.s1.2.2.2.2.length = 32 := hk_h.s1.2.2.2;first | omega | assumption | (simp;done) | (simp;omega) | decide)) rfl ?_
         rintro e w14 ⟨rfl,hN⟩
         refine ⟨_,rfl,hN.sta0 _,?_⟩;clear hE a;intro a hE
         replace hM : Mem _ _ w14 [_,_,_,_,_,_,_,_] := hM.call0 hN trivial;clear hN
         refine q_nil (q_nx ?_)
         refine o_re ?_
         refine o_fl rfl ?_
         refine s_move hE rfl rfl ?_;clear hE a;intro a hE
         refine s_extract hE rfl rfl rfl ?_;clear hE a;intro a hE
         refine s_extract hE rfl rfl rfl ?_;clear hE a;intro a hE
         refine q_nil (q_nx ?_)
         refine o_fl rfl ?_
         refine q_nil (q_nx ?_)
         refine o_weak (fun b => b = b14) (fun _ _ => trivial) ?_
         refine o_or rfl ?_ ?_
         ·refine s_storeSeg 0 hE rfl rfl hM rfl sz23 ((bv_length _).trans (unwK_len (k := (kK p h.s1.2.2.1 h.s1.2.1)) (l := [115,108,111,116]) (n := 0) (d := h.s1.2.2.2.1) (t := h.s1.2.2.2.2) (by have hl_std : h.s1.2.2.2.1.length = 32 := hk_h.s1.2.2.1;first | assumption | (simp;done)))) (bv_one _) rfl ((bv_length _).trans (by first | (simp;done) | (simp [*];done) | (simp;omega))) rfl (by intro X h;cases h;rfl) ?_;intro w15 hM';clear hM;have hM := hM';clear hM'
          simp only [List.set_cons_zero,List.set_cons_succ] at hM
          refine q_nil (q_nx ?_)
          refine o_cut (fun _ => True) ?_
          refine o_re ?_
          refine o_weak (fun _ => False) (fun _ _ => trivial) ?_
          refine o_leaf rfl rfl ?_
          refine s_assign hE rfl rfl ?_;clear hE a;intro a hE
          refine q_nil (q_ph (q_nil ?_))
          replace hE : Env a 112 [(1,_),(2,_),(4,_),(5,_),(6,_),(7,_),(8,_),(10,_),(11,_),(12,_),(13,_),(14,_),(15,_),(18,_),(28,_),(41,_),(43,_),(61,_),(77,_)] := hE.sel [1,2,4,5,6,7,8,10,11,12,13,14,15,18,28,41,43,61,77] rfl
          replace hM : Mem _ _ w15 [_,_,_,_,_,_,_,_] := hM.pick [0,1,2,3,4,5,6,7] rfl
          refine q_then_n ⟨_,hE.sel [1,2,4,5,6,7,8,10,11,12,13,14,15,18,28,41,43,61,77] rfl,hM⟩
         trivial
        trivial
       trivial
      clear hE hM a;rintro a w16 ⟨b14,hE,hM⟩
      refine wp_seq_k (fun K21 hK21 => ?_)
      refine wp_plain [true,true,true,true,true,true,true] rfl rfl ?_
      refine s_move hE rfl rfl ?_;clear hE a;intro a hE
      refine s_bin hE rfl rfl bin_eql rfl ?_;clear hE a;intro a hE
      replace hE := hE.cast 88 rfl (show _ = Value.bool false from (congrArg Value.bool (by decide)))
      refine s_move hE rfl rfl ?_;clear hE a;intro a hE
      refine g_no (b := false) hE rfl rfl rfl ?_;clear hE a;intro a hE
      refine g_no (b := false) hE rfl rfl rfl ?_;clear hE a;intro a hE
      refine g_no (b := false) hE rfl rfl rfl ?_;clear hE a;intro a hE
      refine s_pickf hE rfl rfl rfl ?_;clear hE a;intro a hE
      refine q_nil ?_
      replace hE : Env a 112 [(1,_),(2,_),(4,_),(5,_),(6,_),(7,_),(8,_),(10,_),(11,_),(12,_),(13,_),(14,_),(15,_),(18,_),(28,_),(41,_),(43,_),(61,_),(77,_),(93,_)] := hE.sel [1,2,4,5,6,7,8,10,11,12,13,14,15,18,28,41,43,61,77,93] rfl
      refine hK21 _ _ ?_
      refine wp_cond_false (hE.eval rfl) ?_
      refine wp_seq_k (fun K22 hK22 => ?_)
      refine wp_plain [true,true] rfl rfl ?_
      refine s_move hE rfl rfl ?_;clear hE a;intro a hE
      refine s_bin hE rfl rfl bin_eql rfl ?_;clear hE a;intro a hE
      refine q_nil ?_
      replace hE : Env a 112 [(1,_),(2,_),(4,_),(5,_),(6,_),(7,_),(8,_),(10,_),(11,_),(12,_),(13,_),(14,_),(15,_),(18,_),(28,_),(41,_),(43,_),(61,_),(77,_),(93,_),(102,_)] := hE.sel [1,2,4,5,6,7,8,10,11,12,13,14,15,18,28,41,43,61,77,93,102] rfl
      refine hK22 _ _ ?_
      replace hE := hE.cast 102 rfl (show _ = Value.bool false from (congrArg Value.bool (decide_eq_false (by have hw1 := op_ne hu1 (show opS p h.s1 = false from hqn 1 (by decide));simp only [slotT] at hw1;omega))))
      refine wp_cond_false (hE.eval rfl) ?_
      refine wp_skip ?_
      refine q_block_n ?_
      refine hK14 _ _ ?_
      refine wp_plain [true,true,true] rfl rfl ?_
      refine s_move hE rfl rfl ?_;clear hE a;intro a hE
      refine s_bin hE rfl rfl (show Bin _ _ _ _ _ (.int .i64 2) from bin_add (by rw [wrap_i64 (by omega) (by omega)];omega)) rfl ?_;clear hE a;intro a hE
      refine s_assign hE rfl rfl ?_;clear hE a;intro a hE
      refine q_nil ?_
      replace hE : Env a 112 [(1,_),(2,_),(4,_),(5,_),(6,_),(7,_),(8,_),(10,_),(11,_),(12,_),(13,_),(14,_),(15,_),(18,_),(28,_),(41,_),(43,_),(61,_),(77,_),(93,_),(102,_)] := hE.sel [1,2,4,5,6,7,8,10,11,12,13,14,15,18,28,41,43,61,77,93,102] rfl
      replace hM : Mem _ _ w16 [_,_,_,_,_] := hM.pick [3,4,5,6,7] rfl
      refine q_then_n ⟨trivial,hE.sel [1,2,4,5,6,7,8,10,18,28,41] rfl,hM⟩
    clear hE hM a;rintro a w8 ⟨hJ10_1,hE,hM⟩
    refine c_roundsJ (fun a w' => True ∧ Env a 112 [(1,.string (str p)),(2,.pointer (some ⟨b2,0,none⟩)),(4,.bool false),(5,.pointer (some ⟨b5,0,none⟩)),(6,.int .i64 0),(7,.int .i64 12),(8,v37),(10,.int .i64 3),(18,.bool false),(28,.bool false),(41,.bool false)] ∧ Mem w [] w' [blk b5 [bv (List.replicate 32 0)] [32] 23,own v37 1 (phrZ p).length (bv (phrZ p)),blk b2 [[.int .i64 h.m],[.int .i64 h.r],[.bool h.v0.1],[.int .u64 ((h.v0.2.1 : Nat) : Int)],bv h.v0.2.2.1,bv h.v0.2.2.2,[.bool h.v1.1],[.int .u64 ((h.v1.2.1 : Nat) : Int)],bv h.v1.2.2.1,bv h.v1.2.2.2,[.bool h.s0.1],[.int .i64 h.s0.2.1],bv h.s0.2.2.1,bv h.s0.2.2.2.1,bv h.s0.2.2.2.2,[.bool h.s1.1],[.int .i64 h.s1.2.1],bv h.s1.2.2.1,bv h.s1.2.2.2.1,bv h.s1.2.2.2.2,[.bool h.s2.1],[.int .i64 h.s2.2.1],bv h.s2.2.2.1,bv h.s2.2.2.2.1,bv h.s2.2.2.2.2,[.bool h.s3.1],[.int .i64 h.s3.2.1],bv h.s3.2.2.1,bv h.s3.2.2.2.1,bv h.s3.2.2.2.2] [1,1,1,1,32,32,1,1,32,32,1,1,16,32,32,1,1,16,32,32,1,1,16,32,32,1,1,16,32,32] 62,glb 1,tabP]) ?_ ?_
    ·skip
     refine wp_seq_k (fun K12 hK12 => ?_)
     refine wp_seq_k (fun K13 hK13 => ?_)
     refine wp_plain [true,true] rfl rfl ?_
     refine s_move hE rfl rfl ?_;clear hE a;intro a hE
     refine s_bin hE rfl rfl bin_lss rfl ?_;clear hE a;intro a hE
     replace hE := hE.cast 43 rfl (show _ = Value.bool true from (congrArg Value.bool (by decide)))
     refine q_nil ?_
     replace hE : Env a 112 [(1,_),(2,_),(4,_),(5,_),(6,_),(7,_),(8,_),(10,_),(18,_),(28,_),(41,_),(43,_)] := hE.sel [1,2,4,5,6,7,8,10,18,28,41,43] rfl
     refine hK13 _ _ ?_
     refine wp_cond_true (hE.eval rfl) ?_
     refine wp_skip ?_
     refine hK12 _ _ ?_
     refine wp_seq_k (fun K14 hK14 => ?_)
     refine wp_block ?_
     refine wp_seq_k (fun K15 hK15 => ?_)
     refine wp_plain [true,true,true,true,false,false] rfl rfl ?_
     refine s_move hE rfl rfl ?_;clear hE a;intro a hE
     refine s_fieldAddr hE rfl fo62_2 rfl ?_;clear hE a;intro a hE
     refine s_indexArr (j := 2) hE rfl rfl arr60 rfl (by decide) rfl ?_;clear hE a;intro a hE
     refine s_loadN hE rfl (hM.get 2 rfl) row59 rfl (by intro X h;cases h) rfl ?_;clear hE a;intro a hE
     replace hE := hE.cast 49 rfl (show _ = Value.agg ([[.bool h.s2.1],[.int .i64 h.s2.2.1],bv h.s2.2.2.1,bv h.s2.2.2.2.1,bv h.s2.2.2.2.2] : List (List Value)).flatten.toArray from (by first | rfl | simp only [List.flatten_cons,List.flatten_nil,List.append_nil,List.append_assoc]))
     refine s_alloc [1,1,16,32,32] hE hM zeroL59 rfl rfl ?_;clear hE a;intro a b11 w9 hE hM'
     clear hM;have hM := hM';clear hM'
     have hsl2104_2 : h.s2.2.2.1.length = 16 := hk_h.s2.2.1
     have hsl2104_3 : h.s2.2.2.2.1.length = 32 := hk_h.s2.2.2.1
     have hsl2104_4 : h.s2.2.2.2.2.length = 32 := hk_h.s2.2.2.2
     refine s_storeSegs 0 5 (vss := [[.bool h.s2.1],[.int .i64 h.s2.2.1],bv h.s2.2.2.1,bv h.s2.2.2.2.1,bv h.s2.2.2.2.2]) hE rfl rfl hM rfl sz59 (by simp only [List.take_succ_cons,List.take_zero,List.drop_zero,List.drop_succ_cons];simp only [List.map_cons,List.map_nil,bv_length,List.length_cons,List.length_nil,List.length_replicate,hsl2104_2,hsl2104_3,hsl2104_4]) (by decide) rfl (one_fl ⟨one1 rfl,one1 rfl,bv_one _,bv_one _,bv_one _,trivial⟩) rfl (by intro X h;cases h) ?_;intro w10 hM';clear hM;have hM := hM';clear hM'
     try simp only [List.take_zero,List.take_succ_cons,List.drop_zero,List.drop_succ_cons,List.take_nil,List.drop_nil,List.nil_append,List.append_nil,List.cons_append] at hM
     refine q_nil ?_
     replace hE : Env a 112 [(1,_),(2,_),(4,_),(5,_),(6,_),(7,_),(8,_),(10,_),(11,_),(18,_),(28,_),(41,_),(43,_)] := hE.sel [1,2,4,5,6,7,8,10,11,18,28,41,43] rfl
     refine hK15 _ _ ?_
     refine wp_seq_k (fun K16 hK16 => ?_)
     refine wp_seq_k (fun K17 hK17 => ?_)
     refine wp_plain [true,true,true,true,true,true,true,true,true,true,true,true] rfl rfl ?_
     refine s_fieldAddr hE rfl fo59_0 rfl ?_;clear hE a;intro a hE
     refine s_load1 hE rfl (hM.get 0 rfl) rfl one4 (by intro X h;cases h) rfl ?_;clear hE a;intro a hE
     refine s_not hE rfl rfl ?_;clear hE a;intro a hE
     refine s_move hE rfl rfl ?_;clear hE a;intro a hE
     refine hE.split 53 rfl (fun hb53 hE' => ?_) (fun hb53 hE' => ?_)
     ·replace hE := hE';clear hE'
      replace hb53 := not_true hb53
      refine g_no (b := true) hE rfl rfl rfl ?_;clear hE a;intro a hE
      refine g_no (b := true) hE rfl rfl rfl ?_;clear hE a;intro a hE
      refine g_no (b := true) hE rfl rfl rfl ?_;clear hE a;intro a hE
      refine g_und hE rfl rfl rfl ?_;clear hE a;intro a hE
      refine g_und hE rfl rfl rfl ?_;clear hE a;intro a hE
      refine g_und hE rfl rfl rfl ?_;clear hE a;intro a hE
      refine g_no (b := true) hE rfl rfl rfl ?_;clear hE a;intro a hE
      refine s_pickt hE rfl rfl rfl ?_;clear hE a;intro a hE
      refine q_nil ?_
      replace hE : Env a 112 [(1,_),(2,_),(4,_),(5,_),(6,_),(7,_),(8,_),(10,_),(11,_),(18,_),(28,_),(41,_),(43,_),(61,_)] := hE.sel [1,2,4,5,6,7,8,10,11,18,28,41,43,61] rfl
      refine hK17 _ _ ?_
      refine wp_cond_true (hE.eval rfl) ?_
      refine wp_exit ?_
      refine q_then_e ?_
      refine q_block_x ?_
      refine hK14 _ _ ?_
      refine wp_plain [true,true,true] rfl rfl ?_
      refine s_move hE rfl rfl ?_;clear hE a;intro a hE
      refine s_bin hE rfl rfl (show Bin _ _ _ _ _ (.int .i64 3) from bin_add (by rw [wrap_i64 (by omega) (by omega)];omega)) rfl ?_;clear hE a;intro a hE
      refine s_assign hE rfl rfl ?_;clear hE a;intro a hE
      refine q_nil ?_
      replace hE : Env a 112 [(1,_),(2,_),(4,_),(5,_),(6,_),(7,_),(8,_),(10,_),(11,_),(18,_),(28,_),(41,_),(43,_),(61,_)] := hE.sel [1,2,4,5,6,7,8,10,11,18,28,41,43,61] rfl
      replace hM : Mem _ _ w10 [_,_,_,_,_] := hM.pick [1,2,3,4,5] rfl
      refine q_then_n ⟨trivial,hE.sel [1,2,4,5,6,7,8,10,18,28,41] rfl,hM⟩
     ·replace hE := hE';clear hE'
      replace hb53 := not_false' hb53
      have hu1 : h.s2.1 = true := by simpa using hb53
      have hor := hc2 hu1
      refine g_yes hE rfl rfl ?_
      refine s_move hE rfl rfl ?_;clear hE a;intro a hE
      refine g_yes hE rfl rfl ?_
      refine s_bin hE rfl rfl bin_eql rfl ?_;clear hE a;intro a hE
      replace hE := hE.cast 55 rfl (show _ = Value.bool false from (congrArg Value.bool (by decide)))
      refine g_yes hE rfl rfl ?_
      refine s_move hE rfl rfl ?_;clear hE a;intro a hE
      refine g_no (b := false) hE rfl rfl rfl ?_;clear hE a;intro a hE
      refine g_no (b := false) hE rfl rfl rfl ?_;clear hE a;intro a hE
      refine g_no (b := false) hE rfl rfl rfl ?_;clear hE a;intro a hE
      refine g_yes hE rfl rfl ?_
      refine s_pickf hE rfl rfl rfl ?_;clear hE a;intro a hE
      refine s_pickf hE rfl rfl rfl ?_;clear hE a;intro a hE
      refine q_nil ?_
      replace hE : Env a 112 [(1,_),(2,_),(4,_),(5,_),(6,_),(7,_),(8,_),(10,_),(11,_),(18,_),(28,_),(41,_),(43,_),(61,_)] := hE.sel [1,2,4,5,6,7,8,10,11,18,28,41,43,61] rfl
      refine hK17 _ _ ?_
      refine wp_cond_false (hE.eval rfl) ?_
      refine wp_skip ?_
      refine hK16 _ _ ?_
      refine wp_seq_k (fun K18 hK18 => ?_)
      refine wp_drawnM hM (by kernel_rfl) (fun _ => False) [(0,true),(1,true),(2,true),(3,true),(4,true),(5,false),(6,true),(7,true),(8,true),(9,true),(10,true)] [(5,[(6,5),(7,6),(8,6),(9,5),(10,5)])] (by kernel_rfl) rfl ?_
      intro w11 hM' hww11;clear hM;have hM := hM';clear hM'
      refine s_move hE rfl rfl ?_;clear hE a;intro a hE
      refine s_fieldAddr hE rfl fo59_2 rfl ?_;clear hE a;intro a hE
      refine s_sliceArr (l := 0) (h := 16) (mx' := 16) hE rfl arr57 rfl rfl rfl (by simp) (by omega) (by omega) (by omega) rfl ?_;clear hE a;intro a hE
      replace hE := hE.cast 65 rfl (show _ = Value.slice (some ⟨b11,2,none⟩) 16 16 from rfl)
      refine s_fieldAddr hE rfl fo59_1 rfl ?_;clear hE a;intro a hE
      refine s_load1 hE rfl (hM.get 0 rfl) rfl one3 (by intro X h;cases h;simp) rfl ?_;clear hE a;intro a hE
      obtain ⟨cq7,hq7⟩ := own_rd (hM.get 2 rfl)
      refine s_call hE rfl Tryd.call31 (pkey_a _ _ (phrZ p) h.s2.2.2.1 _ _ h.s2.2.1 _ (hM.get 4 rfl) hq7 (rd_seg8 (N := 16) (hM.get 0 rfl) rfl hk_h.s2.2.1) (by have := phrZ_len p;omega) (by have hl_q : h.s2.2.2.1.length = 16 := hk_h.s2.2.1;omega)) rfl ?_
      rintro e w12 ⟨v68,rfl,hN⟩
      refine ⟨_,rfl,hN.sta0 _,?_⟩;clear hE a;intro a hE
      replace hM : Mem _ _ w12 [_,_,_,_,_,_,_] := hM.call0 hN ⟨rfl,trivial⟩;clear hN
      replace hM := Mem.ownWB (p := keyZ (phrZ p) h.s2.2.2.1 h.s2.2.1) (q := kK p h.s2.2.2.1 h.s2.2.1) hM (by simp [keyZ,phrZ,kK,hop,hor])
      refine s_move hE rfl rfl ?_;clear hE a;intro a hE
      refine s_extract hE rfl rfl rfl ?_;clear hE a;intro a hE
      refine s_extract hE rfl rfl rfl ?_;clear hE a;intro a hE
      refine s_assign hE rfl rfl ?_;clear hE a;intro a hE
      refine s_assign hE rfl rfl ?_;clear hE a;intro a hE
      refine q_nil ?_
      replace hE : Env a 112 [(1,_),(2,_),(4,_),(5,_),(6,_),(7,_),(8,_),(10,_),(11,_),(12,_),(13,_),(18,_),(28,_),(41,_),(43,_),(61,_)] := hE.sel [1,2,4,5,6,7,8,10,11,12,13,18,28,41,43,61] rfl
      refine hK18 _ _ ?_
      refine wp_seq_k (fun K19 hK19 => ?_)
      refine wp_seq_k (fun K20 hK20 => ?_)
      refine wp_plain [true,true,true,true,true,true,true] rfl rfl ?_
      refine s_move hE rfl rfl ?_;clear hE a;intro a hE
      refine s_bin hE rfl rfl bin_neq rfl ?_;clear hE a;intro a hE
      refine s_move hE rfl rfl ?_;clear hE a;intro a hE
      replace hE := hE.cast 73 rfl (show _ = Value.bool false from (congrArg Value.bool (by rw [roundE_zero.2 hor];rfl)))
      refine g_yes hE rfl rfl ?_
      refine s_move hE rfl rfl ?_;clear hE a;intro a hE
      refine g_yes hE rfl rfl ?_
      refine s_len hE rfl Tryd.underlying42 (ownW_slice (hM.get 0 rfl)) rfl ?_;clear hE a;intro a hE
      replace hE := hE.cast 75 rfl (show _ = Value.int .i64 ((32 : Nat) : Int) from (congrArg (fun n : Nat => Value.int .i64 (n : Int)) (kK_len ..)))
      refine g_yes hE rfl rfl ?_
      refine s_bin hE rfl rfl bin_neq rfl ?_;clear hE a;intro a hE
      replace hE := hE.cast 76 rfl (show _ = Value.bool false from (congrArg Value.bool (by decide)))
      refine s_pickf hE rfl rfl rfl ?_;clear hE a;intro a hE
      refine q_nil ?_
      replace hE : Env a 112 [(1,_),(2,_),(4,_),(5,_),(6,_),(7,_),(8,_),(10,_),(11,_),(12,_),(13,_),(18,_),(28,_),(41,_),(43,_),(61,_),(77,_)] := hE.sel [1,2,4,5,6,7,8,10,11,12,13,18,28,41,43,61,77] rfl
      refine hK20 _ _ ?_
      refine wp_cond_false (hE.eval rfl) ?_
      refine wp_skip ?_
      refine hK19 _ _ ?_
      refine wp_seq_j (fun a w' => ∃ (b14 : Nat),Env a 112 [(1,.string (str p)),(2,.pointer (some ⟨b2,0,none⟩)),(4,.bool false),(5,.pointer (some ⟨b5,0,none⟩)),(6,.int .i64 0),(7,.int .i64 12),(8,v37),(10,.int .i64 2),(11,.pointer (some ⟨b11,0,none⟩)),(12,v68),(13,.int .i64 ((roundE h.s2.2.1 : Nat) : Int)),(14,.pointer (some ⟨b14,0,none⟩)),(15,.int .i64 ((unwE (kK p h.s2.2.2.1 h.s2.2.1) [115,108,111,116] 0 h.s2.2.2.2.1 h.s2.2.2.2.2 : Nat) : Int)),(18,.bool false),(28,.bool false),(41,.bool false),(43,.bool true),(61,.bool false),(77,.bool false)] ∧ Mem w [] w' [blk b14 [bv (unwK (kK p h.s2.2.2.1 h.s2.2.1) [115,108,111,116] 0 h.s2.2.2.2.1 h.s2.2.2.2.2)] [32] 23,ownW v68 1 (kK p h.s2.2.2.1 h.s2.2.1).length (bv (kK p h.s2.2.2.1 h.s2.2.1)),blk b11 [[.bool h.s2.1],[.int .i64 h.s2.2.1],bv h.s2.2.2.1,bv h.s2.2.2.2.1,bv h.s2.2.2.2.2] [1,1,16,32,32] 59,blk b5 [bv (List.replicate 32 0)] [32] 23,own v37 1 (phrZ p).length (bv (phrZ p)),blk b2 [[.int .i64 h.m],[.int .i64 h.r],[.bool h.v0.1],[.int .u64 ((h.v0.2.1 : Nat) : Int)],bv h.v0.2.2.1,bv h.v0.2.2.2,[.bool h.v1.1],[.int .u64 ((h.v1.2.1 : Nat) : Int)],bv h.v1.2.2.1,bv h.v1.2.2.2,[.bool h.s0.1],[.int .i64 h.s0.2.1],bv h.s0.2.2.1,bv h.s0.2.2.2.1,bv h.s0.2.2.2.2,[.bool h.s1.1],[.int .i64 h.s1.2.1],bv h.s1.2.2.1,bv h.s1.2.2.2.1,bv h.s1.2.2.2.2,[.bool h.s2.1],[.int .i64 h.s2.2.1],bv h.s2.2.2.1,bv h.s2.2.2.2.1,bv h.s2.2.2.2.2,[.bool h.s3.1],[.int .i64 h.s3.2.1],bv h.s3.2.2.1,bv h.s3.2.2.2.1,bv h.s3.2.2.2.2] [1,1,1,1,32,32,1,1,32,32,1,1,16,32,32,1,1,16,32,32,1,1,16,32,32,1,1,16,32,32] 62,glb 1,tabP]) ?_ ?_
      ·refine wp_treeM hM (by kernel_rfl) (fun _ => True) (fun _ => True) (.re [(0,true),(1,true),(3,true),(2,true),(4,true),(5,false),(6,true),(7,true),(8,true),(9,false),(10,false),(11,true)] (.fl 3 (.weak (.fl 2 (.or 5 (.re [(6,true),(7,true),(8,true),(9,false),(10,false),(11,true)] (.fl 3 (.fl 0 (.or 9 (.re [(10,false),(11,true)] (.fl 0 (.fl 0 (.or 10 (.cut (.re [(11,true)] (.weak (.leaf 1)))) (.stop))))) (.stop))))) (.or 9 (.cut (.re [(5,false),(6,true),(7,true),(8,true),(10,false),(11,true)] (.fl 0 (.fl 0 (.or 5 (.re [(6,true),(7,true),(8,true),(10,false),(11,true)] (.fl 3 (.fl 0 (.weak (.or 10 (.cut (.re [(11,true)] (.weak (.leaf 1)))) (.stop)))))) (.stop)))))) (.stop))))))) [(0,true),(1,true),(3,true),(2,true),(4,true),(5,false),(6,true),(7,true),(8,true),(9,false),(10,false),(11,true)] [(1,[(2,1),(5,2),(6,5),(7,6),(8,6),(10,1),(11,1)]),(2,[(5,2),(6,5),(7,6),(8,6),(10,2),(11,2)]),(3,[(4,3),(5,4),(6,5),(7,6),(8,6),(10,3),(11,3)]),(4,[(5,4),(6,5),(7,6),(8,6),(10,4),(11,4)]),(5,[(6,5),(7,6),(8,6),(10,5),(11,5)]),(7,[(10,7),(11,7)]),(8,[(11,8)]),(9,[(10,9),(11,9)]),(10,[(11,10)])] (by kernel_rfl) ?_
       intro w13 hM' hww13;clear hM;have hM := hM';clear hM'
       refine o_re ?_
       refine o_fl rfl ?_
       refine s_move hE rfl rfl ?_;clear hE a;intro a hE
       refine s_toArrW hE rfl (hM.get 0 rfl) rfl (kK_len ..) (by decide) Tryd.underlying23 rfl ?_;clear hE a;intro a p80 hE hc80 hv80
       refine s_fieldAddr hE rfl fo59_3 rfl ?_;clear hE a;intro a hE
       refine q_nil (q_nx ?_)
       refine o_weak (fun b => b ≠ b11 ∧ b ∉ valBlocks v68) (fun _ _ => trivial) ?_
       refine o_fl rfl ?_
       refine s_loadAtN hE rfl hc80 (by rw [bv_length,kK_len];exact row23) (by intro X h;cases h;exact fun b hb hx => hx.2 (hv80 b hb)) rfl ?_;clear hE a;intro a hE
       refine s_loadN hE rfl (hM.get 1 rfl) row29 rfl (by intro X h;cases h;simp) rfl ?_;clear hE a;intro a hE
       replace hE := hE.cast 83 rfl (show _ = Value.agg ([bv h.s2.2.2.2.1,bv h.s2.2.2.2.2] : List (List Value)).flatten.toArray from (by first | rfl | simp only [List.flatten_cons,List.flatten_nil,List.append_nil,List.append_assoc]))
       refine q_nil (q_nx ?_)
       refine o_or rfl ?_ ?_
       ·refine s_call hE rfl Tryd.call16 (unwrap_c (kK p h.s2.2.2.1 h.s2.2.1) [115,108,111,116] 0 h.s2.2.2.2.1 h.s2.2.2.2.2 _ (hM.get 5 rfl) (hM.get 6 rfl) (kK_len ..) hk_h.s2.2.2.1 hk_h.s2.2.2.2 (by have hl_0 : (kK p h.s2.2.2.1 h.s2.2.1).length = 32 := (kK_len ..);have hl_1 : [115,108,111,116].length = 4 := (by first | (simp;done) | (simp [*];done) | (simp;omega));have hl_3d : h.s2.2.2.2.1.length = 32 := hk_h.s2.2.2.1;have hl_3t : h.s2.2.2.2.2.length = 32 := hk_h.s2.2.2.2;first | omega | assumption | (simp;done) | (simp;omega) | decide) (by have hl_0 : (kK p h.s2.2.2.1 h.s2.2.1).length = 32 := (kK_len ..);have hl_1 : [115,108,111,116].length = 4 := (by first | (simp;done) | (simp [*];done) | (simp;omega));have hl_3d : h.s2.2.2.2.1.length = 32 := hk_h.s2.2.2.1;have hl_3t : h.s2.2.2.2.2.length = 32 := hk_h.s2.2.2.2;first | omega | assumption | (simp;done) | (simp;omega) | decide)) rfl ?_
        rintro e w14 ⟨rfl,hN⟩
        refine ⟨_,rfl,hN.sta0 _,?_⟩;clear hE a;intro a hE
        replace hM : Mem _ _ w14 [_,_,_,_,_,_,_] := hM.call0 hN trivial;clear hN
        refine q_nil (q_nx ?_)
        refine o_re ?_
        refine o_fl rfl ?_
        refine s_move hE rfl rfl ?_;clear hE a;intro a hE
        refine s_extract hE rfl rfl rfl ?_;clear hE a;intro a hE
        refine s_extract hE rfl rfl rfl ?_;clear hE a;intro a hE
        refine q_nil (q_nx ?_)
        refine o_fl rfl ?_
        refine q_nil (q_nx ?_)
        refine o_or rfl ?_ ?_
        ·refine s_alloc [32] hE hM zero23 rfl rfl ?_;clear hE a;intro a b14 w15 hE hM'
         clear hM;have hM := hM';clear hM'
         refine q_nil (q_nx ?_)
         refine o_re ?_
         refine o_fl rfl ?_
         refine q_nil (q_nx ?_)
         refine o_fl rfl ?_
         refine q_nil (q_nx ?_)
         refine o_or rfl ?_ ?_
         ·refine s_storeSeg 0 hE rfl rfl hM rfl sz23 ((bv_length _).trans (unwK_len (k := (kK p h.s2.2.2.1 h.s2.2.1)) (l := [115,108,111,116]) (n := 0) (d := h.s2.2.2.2.1) (t := h.s2.2.2.2.2) (by have hl_std : h.s2.2.2.2.1.length = 32 := hk_h.s2.2.2.1;first | assumption | (simp;done)))) (bv_one _) rfl ((bv_length _).trans (by first | (simp;done) | (simp [*];done) | (simp;omega))) rfl (by intro X h;cases h;exact ⟨fun e => ((apart_of_get hM.apart (i := 0) (j := 2) rfl rfl (by decide)).1 _ (.head _)).1 (by rw [e];exact .head _),fun hv => ((apart_of_get hM.apart (i := 0) (j := 1) rfl rfl (by decide)).1 _ (.head _)).1 hv⟩) ?_;intro w16 hM';clear hM;have hM := hM';clear hM'
          simp only [List.set_cons_zero,List.set_cons_succ] at hM
          refine q_nil (q_nx ?_)
          refine o_cut (fun _ => True) ?_
          refine o_re ?_
          refine o_weak (fun _ => False) (fun _ _ => trivial) ?_
          refine o_leaf rfl rfl ?_
          refine s_assign hE rfl rfl ?_;clear hE a;intro a hE
          refine q_nil (q_ph (q_nil ?_))
          replace hE : Env a 112 [(1,_),(2,_),(4,_),(5,_),(6,_),(7,_),(8,_),(10,_),(11,_),(12,_),(13,_),(14,_),(15,_),(18,_),(28,_),(41,_),(43,_),(61,_),(77,_)] := hE.sel [1,2,4,5,6,7,8,10,11,12,13,14,15,18,28,41,43,61,77] rfl
          replace hM : Mem _ _ w16 [_,_,_,_,_,_,_,_] := hM.pick [0,1,2,3,4,5,6,7] rfl
          refine q_then_n ⟨_,hE.sel [1,2,4,5,6,7,8,10,11,12,13,14,15,18,28,41,43,61,77] rfl,hM⟩
         trivial
        trivial
       refine o_or rfl ?_ ?_
       ·refine s_alloc [32] hE hM zero23 rfl rfl ?_;clear hE a;intro a b14 w14 hE hM'
        clear hM;have hM := hM';clear hM'
        refine q_nil (q_nx ?_)
        refine o_cut (fun _ => True) ?_
        refine o_re ?_
        refine o_fl rfl ?_
        refine q_nil (q_nx ?_)
        refine o_fl rfl ?_
        refine q_nil (q_nx ?_)
        refine o_or rfl ?_ ?_
        ·refine s_call hE rfl Tryd.call16 (unwrap_c (kK p h.s2.2.2.1 h.s2.2.1) [115,108,111,116] 0 h.s2.2.2.2.1 h.s2.2.2.2.2 _ (hM.get 6 rfl) (hM.get 7 rfl) (kK_len ..) hk_h.s2.2.2.1 hk_h.s2.2.2.2 (by have hl_0 : (kK p h.s2.2.2.1 h.s2.2.1).length = 32 := (kK_len ..);have hl_1 : [115,108,111,116].length = 4 := (by first | (simp;done) | (simp [*];done) | (simp;omega));have hl_3d : h.s2.2.2.2.1.length = 32 := hk_h.s2.2.2.1;have hl_3t : h.s2.2.2.2.2.length = 32 := hk_h.s2.2.2.2;first | omega | assumption | (simp;done) | (simp;omega) | decide) (by have hl_0 : (kK p h.s2.2.2.1 h.s2.2.1).length = 32 := (kK_len ..);have hl_1 : [115,108,111,116].length = 4 := (by first | (simp;done) | (simp [*];done) | (simp;omega));have hl_3d : h.s2.2.2.2.1.length = 32 := hk_h.s2.2.2.1;have hl_3t : h.s2.2.2.2.2.length = 32 := hk_h.s2.2.2.2;first | omega | assumption | (simp;done) | (simp;omega) | decide)) rfl ?_
         rintro e w15 ⟨rfl,hN⟩
         refine ⟨_,rfl,hN.sta0 _,?_⟩;clear hE a;intro a hE
         replace hM : Mem _ _ w15 [_,_,_,_,_,_,_,_] := hM.call0 hN trivial;clear hN
         refine q_nil (q_nx ?_)
         refine o_re ?_
         refine o_fl rfl ?_
         refine s_move hE rfl rfl ?_;clear hE a;intro a hE
         refine s_extract hE rfl rfl rfl ?_;clear hE a;intro a hE
         refine s_extract hE rfl rfl rfl ?_;clear hE a;intro a hE
         refine q_nil (q_nx ?_)
         refine o_fl rfl ?_
         refine q_nil (q_nx ?_)
         refine o_weak (fun b => b = b14) (fun _ _ => trivial) ?_
         refine o_or rfl ?_ ?_
         ·refine s_storeSeg 0 hE rfl rfl hM rfl sz23 ((bv_length _).trans (unwK_len (k := (kK p h.s2.2.2.1 h.s2.2.1)) (l := [115,108,111,116]) (n := 0) (d := h.s2.2.2.2.1) (t := h.s2.2.2.2.2) (by have hl_std : h.s2.2.2.2.1.length = 32 := hk_h.s2.2.2.1;first | assumption | (simp;done)))) (bv_one _) rfl ((bv_length _).trans (by first | (simp;done) | (simp [*];done) | (simp;omega))) rfl (by intro X h;cases h;rfl) ?_;intro w16 hM';clear hM;have hM := hM';clear hM'
          simp only [List.set_cons_zero,List.set_cons_succ] at hM
          refine q_nil (q_nx ?_)
          refine o_cut (fun _ => True) ?_
          refine o_re ?_
          refine o_weak (fun _ => False) (fun _ _ => trivial) ?_
          refine o_leaf rfl rfl ?_
          refine s_assign hE rfl rfl ?_;clear hE a;intro a hE
          refine q_nil (q_ph (q_nil ?_))
          replace hE : Env a 112 [(1,_),(2,_),(4,_),(5,_),(6,_),(7,_),(8,_),(10,_),(11,_),(12,_),(13,_),(14,_),(15,_),(18,_),(28,_),(41,_),(43,_),(61,_),(77,_)] := hE.sel [1,2,4,5,6,7,8,10,11,12,13,14,15,18,28,41,43,61,77] rfl
          replace hM : Mem _ _ w16 [_,_,_,_,_,_,_,_] := hM.pick [0,1,2,3,4,5,6,7] rfl
          refine q_then_n ⟨_,hE.sel [1,2,4,5,6,7,8,10,11,12,13,14,15,18,28,41,43,61,77] rfl,hM⟩
         trivial
        trivial
       trivial
      clear hE hM a;rintro a w17 ⟨b14,hE,hM⟩
      refine wp_seq_k (fun K21 hK21 => ?_)
      refine wp_plain [true,true,true,true,true,true,true] rfl rfl ?_
      refine s_move hE rfl rfl ?_;clear hE a;intro a hE
      refine s_bin hE rfl rfl bin_eql rfl ?_;clear hE a;intro a hE
      replace hE := hE.cast 88 rfl (show _ = Value.bool false from (congrArg Value.bool (by decide)))
      refine s_move hE rfl rfl ?_;clear hE a;intro a hE
      refine g_no (b := false) hE rfl rfl rfl ?_;clear hE a;intro a hE
      refine g_no (b := false) hE rfl rfl rfl ?_;clear hE a;intro a hE
      refine g_no (b := false) hE rfl rfl rfl ?_;clear hE a;intro a hE
      refine s_pickf hE rfl rfl rfl ?_;clear hE a;intro a hE
      refine q_nil ?_
      replace hE : Env a 112 [(1,_),(2,_),(4,_),(5,_),(6,_),(7,_),(8,_),(10,_),(11,_),(12,_),(13,_),(14,_),(15,_),(18,_),(28,_),(41,_),(43,_),(61,_),(77,_),(93,_)] := hE.sel [1,2,4,5,6,7,8,10,11,12,13,14,15,18,28,41,43,61,77,93] rfl
      refine hK21 _ _ ?_
      refine wp_cond_false (hE.eval rfl) ?_
      refine wp_seq_k (fun K22 hK22 => ?_)
      refine wp_plain [true,true] rfl rfl ?_
      refine s_move hE rfl rfl ?_;clear hE a;intro a hE
      refine s_bin hE rfl rfl bin_eql rfl ?_;clear hE a;intro a hE
      refine q_nil ?_
      replace hE : Env a 112 [(1,_),(2,_),(4,_),(5,_),(6,_),(7,_),(8,_),(10,_),(11,_),(12,_),(13,_),(14,_),(15,_),(18,_),(28,_),(41,_),(43,_),(61,_),(77,_),(93,_),(102,_)] := hE.sel [1,2,4,5,6,7,8,10,11,12,13,14,15,18,28,41,43,61,77,93,102] rfl
      refine hK22 _ _ ?_
      replace hE := hE.cast 102 rfl (show _ = Value.bool false from (congrArg Value.bool (decide_eq_false (by have hw1 := op_ne hu1 (show opS p h.s2 = false from hqn 2 (by decide));simp only [slotT] at hw1;omega))))
      refine wp_cond_false (hE.eval rfl) ?_
      refine wp_skip ?_
      refine q_block_n ?_
      refine hK14 _ _ ?_
      refine wp_plain [true,true,true] rfl rfl ?_
      refine s_move hE rfl rfl ?_;clear hE a;intro a hE
      refine s_bin hE rfl rfl (show Bin _ _ _ _ _ (.int .i64 3) from bin_add (by rw [wrap_i64 (by omega) (by omega)];omega)) rfl ?_;clear hE a;intro a hE
      refine s_assign hE rfl rfl ?_;clear hE a;intro a hE
      refine q_nil ?_
      replace hE : Env a 112 [(1,_),(2,_),(4,_),(5,_),(6,_),(7,_),(8,_),(10,_),(11,_),(12,_),(13,_),(14,_),(15,_),(18,_),(28,_),(41,_),(43,_),(61,_),(77,_),(93,_),(102,_)] := hE.sel [1,2,4,5,6,7,8,10,11,12,13,14,15,18,28,41,43,61,77,93,102] rfl
      replace hM : Mem _ _ w17 [_,_,_,_,_] := hM.pick [3,4,5,6,7] rfl
      refine q_then_n ⟨trivial,hE.sel [1,2,4,5,6,7,8,10,18,28,41] rfl,hM⟩
    clear hE hM a;rintro a w9 ⟨hJ10_2,hE,hM⟩
    refine c_roundsJ (fun a w' => True ∧ Env a 112 [(1,.string (str p)),(2,.pointer (some ⟨b2,0,none⟩)),(4,.bool false),(5,.pointer (some ⟨b5,0,none⟩)),(6,.int .i64 0),(7,.int .i64 12),(8,v37),(10,.int .i64 4),(18,.bool false),(28,.bool false),(41,.bool false)] ∧ Mem w [] w' [blk b5 [bv (List.replicate 32 0)] [32] 23,own v37 1 (phrZ p).length (bv (phrZ p)),blk b2 [[.int .i64 h.m],[.int .i64 h.r],[.bool h.v0.1],[.int .u64 ((h.v0.2.1 : Nat) : Int)],bv h.v0.2.2.1,bv h.v0.2.2.2,[.bool h.v1.1],[.int .u64 ((h.v1.2.1 : Nat) : Int)],bv h.v1.2.2.1,bv h.v1.2.2.2,[.bool h.s0.1],[.int .i64 h.s0.2.1],bv h.s0.2.2.1,bv h.s0.2.2.2.1,bv h.s0.2.2.2.2,[.bool h.s1.1],[.int .i64 h.s1.2.1],bv h.s1.2.2.1,bv h.s1.2.2.2.1,bv h.s1.2.2.2.2,[.bool h.s2.1],[.int .i64 h.s2.2.1],bv h.s2.2.2.1,bv h.s2.2.2.2.1,bv h.s2.2.2.2.2,[.bool h.s3.1],[.int .i64 h.s3.2.1],bv h.s3.2.2.1,bv h.s3.2.2.2.1,bv h.s3.2.2.2.2] [1,1,1,1,32,32,1,1,32,32,1,1,16,32,32,1,1,16,32,32,1,1,16,32,32,1,1,16,32,32] 62,glb 1,tabP]) ?_ ?_
    ·skip
     refine wp_seq_k (fun K12 hK12 => ?_)
     refine wp_seq_k (fun K13 hK13 => ?_)
     refine wp_plain [true,true] rfl rfl ?_
     refine s_move hE rfl rfl ?_;clear hE a;intro a hE
     refine s_bin hE rfl rfl bin_lss rfl ?_;clear hE a;intro a hE
     replace hE := hE.cast 43 rfl (show _ = Value.bool true from (congrArg Value.bool (by decide)))
     refine q_nil ?_
     replace hE : Env a 112 [(1,_),(2,_),(4,_),(5,_),(6,_),(7,_),(8,_),(10,_),(18,_),(28,_),(41,_),(43,_)] := hE.sel [1,2,4,5,6,7,8,10,18,28,41,43] rfl
     refine hK13 _ _ ?_
     refine wp_cond_true (hE.eval rfl) ?_
     refine wp_skip ?_
     refine hK12 _ _ ?_
     refine wp_seq_k (fun K14 hK14 => ?_)
     refine wp_block ?_
     refine wp_seq_k (fun K15 hK15 => ?_)
     refine wp_plain [true,true,true,true,false,false] rfl rfl ?_
     refine s_move hE rfl rfl ?_;clear hE a;intro a hE
     refine s_fieldAddr hE rfl fo62_2 rfl ?_;clear hE a;intro a hE
     refine s_indexArr (j := 3) hE rfl rfl arr60 rfl (by decide) rfl ?_;clear hE a;intro a hE
     refine s_loadN hE rfl (hM.get 2 rfl) row59 rfl (by intro X h;cases h) rfl ?_;clear hE a;intro a hE
     replace hE := hE.cast 49 rfl (show _ = Value.agg ([[.bool h.s3.1],[.int .i64 h.s3.2.1],bv h.s3.2.2.1,bv h.s3.2.2.2.1,bv h.s3.2.2.2.2] : List (List Value)).flatten.toArray from (by first | rfl | simp only [List.flatten_cons,List.flatten_nil,List.append_nil,List.append_assoc]))
     refine s_alloc [1,1,16,32,32] hE hM zeroL59 rfl rfl ?_;clear hE a;intro a b11 w10 hE hM'
     clear hM;have hM := hM';clear hM'
     have hsl2369_2 : h.s3.2.2.1.length = 16 := hk_h.s3.2.1
     have hsl2369_3 : h.s3.2.2.2.1.length = 32 := hk_h.s3.2.2.1
     have hsl2369_4 : h.s3.2.2.2.2.length = 32 := hk_h.s3.2.2.2
     refine s_storeSegs 0 5 (vss := [[.bool h.s3.1],[.int .i64 h.s3.2.1],bv h.s3.2.2.1,bv h.s3.2.2.2.1,bv h.s3.2.2.2.2]) hE rfl rfl hM rfl sz59 (by simp only [List.take_succ_cons,List.take_zero,List.drop_zero,List.drop_succ_cons];simp only [List.map_cons,List.map_nil,bv_length,List.length_cons,List.length_nil,List.length_replicate,hsl2369_2,hsl2369_3,hsl2369_4]) (by decide) rfl (one_fl ⟨one1 rfl,one1 rfl,bv_one _,bv_one _,bv_one _,trivial⟩) rfl (by intro X h;cases h) ?_;intro w11 hM';clear hM;have hM := hM';clear hM'
     try simp only [List.take_zero,List.take_succ_cons,List.drop_zero,List.drop_succ_cons,List.take_nil,List.drop_nil,List.nil_append,List.append_nil,List.cons_append] at hM
     refine q_nil ?_
     replace hE : Env a 112 [(1,_),(2,_),(4,_),(5,_),(6,_),(7,_),(8,_),(10,_),(11,_),(18,_),(28,_),(41,_),(43,_)] := hE.sel [1,2,4,5,6,7,8,10,11,18,28,41,43] rfl
     refine hK15 _ _ ?_
     refine wp_seq_k (fun K16 hK16 => ?_)
     refine wp_seq_k (fun K17 hK17 => ?_)
     refine wp_plain [true,true,true,true,true,true,true,true,true,true,true,true] rfl rfl ?_
     refine s_fieldAddr hE rfl fo59_0 rfl ?_;clear hE a;intro a hE
     refine s_load1 hE rfl (hM.get 0 rfl) rfl one4 (by intro X h;cases h) rfl ?_;clear hE a;intro a hE
     refine s_not hE rfl rfl ?_;clear hE a;intro a hE
     refine s_move hE rfl rfl ?_;clear hE a;intro a hE
     refine hE.split 53 rfl (fun hb53 hE' => ?_) (fun hb53 hE' => ?_)
     ·replace hE := hE';clear hE'
      replace hb53 := not_true hb53
      refine g_no (b := true) hE rfl rfl rfl ?_;clear hE a;intro a hE
      refine g_no (b := true) hE rfl rfl rfl ?_;clear hE a;intro a hE
      refine g_no (b := true) hE rfl rfl rfl ?_;clear hE a;intro a hE
      refine g_und hE rfl rfl rfl ?_;clear hE a;intro a hE
      refine g_und hE rfl rfl rfl ?_;clear hE a;intro a hE
      refine g_und hE rfl rfl rfl ?_;clear hE a;intro a hE
      refine g_no (b := true) hE rfl rfl rfl ?_;clear hE a;intro a hE
      refine s_pickt hE rfl rfl rfl ?_;clear hE a;intro a hE
      refine q_nil ?_
      replace hE : Env a 112 [(1,_),(2,_),(4,_),(5,_),(6,_),(7,_),(8,_),(10,_),(11,_),(18,_),(28,_),(41,_),(43,_),(61,_)] := hE.sel [1,2,4,5,6,7,8,10,11,18,28,41,43,61] rfl
      refine hK17 _ _ ?_
      refine wp_cond_true (hE.eval rfl) ?_
      refine wp_exit ?_
      refine q_then_e ?_
      refine q_block_x ?_
      refine hK14 _ _ ?_
      refine wp_plain [true,true,true] rfl rfl ?_
      refine s_move hE rfl rfl ?_;clear hE a;intro a hE
      refine s_bin hE rfl rfl (show Bin _ _ _ _ _ (.int .i64 4) from bin_add (by rw [wrap_i64 (by omega) (by omega)];omega)) rfl ?_;clear hE a;intro a hE
      refine s_assign hE rfl rfl ?_;clear hE a;intro a hE
      refine q_nil ?_
      replace hE : Env a 112 [(1,_),(2,_),(4,_),(5,_),(6,_),(7,_),(8,_),(10,_),(11,_),(18,_),(28,_),(41,_),(43,_),(61,_)] := hE.sel [1,2,4,5,6,7,8,10,11,18,28,41,43,61] rfl
      replace hM : Mem _ _ w11 [_,_,_,_,_] := hM.pick [1,2,3,4,5] rfl
      refine q_then_n ⟨trivial,hE.sel [1,2,4,5,6,7,8,10,18,28,41] rfl,hM⟩
     ·replace hE := hE';clear hE'
      replace hb53 := not_false' hb53
      have hu1 : h.s3.1 = true := by simpa using hb53
      have hor := hc3 hu1
      refine g_yes hE rfl rfl ?_
      refine s_move hE rfl rfl ?_;clear hE a;intro a hE
      refine g_yes hE rfl rfl ?_
      refine s_bin hE rfl rfl bin_eql rfl ?_;clear hE a;intro a hE
      replace hE := hE.cast 55 rfl (show _ = Value.bool false from (congrArg Value.bool (by decide)))
      refine g_yes hE rfl rfl ?_
      refine s_move hE rfl rfl ?_;clear hE a;intro a hE
      refine g_no (b := false) hE rfl rfl rfl ?_;clear hE a;intro a hE
      refine g_no (b := false) hE rfl rfl rfl ?_;clear hE a;intro a hE
      refine g_no (b := false) hE rfl rfl rfl ?_;clear hE a;intro a hE
      refine g_yes hE rfl rfl ?_
      refine s_pickf hE rfl rfl rfl ?_;clear hE a;intro a hE
      refine s_pickf hE rfl rfl rfl ?_;clear hE a;intro a hE
      refine q_nil ?_
      replace hE : Env a 112 [(1,_),(2,_),(4,_),(5,_),(6,_),(7,_),(8,_),(10,_),(11,_),(18,_),(28,_),(41,_),(43,_),(61,_)] := hE.sel [1,2,4,5,6,7,8,10,11,18,28,41,43,61] rfl
      refine hK17 _ _ ?_
      refine wp_cond_false (hE.eval rfl) ?_
      refine wp_skip ?_
      refine hK16 _ _ ?_
      refine wp_seq_k (fun K18 hK18 => ?_)
      refine wp_drawnM hM (by kernel_rfl) (fun _ => False) [(0,true),(1,true),(2,true),(3,true),(4,true),(5,false),(6,true),(7,true),(8,true),(9,true),(10,true)] [(5,[(6,5),(7,6),(8,6),(9,5),(10,5)])] (by kernel_rfl) rfl ?_
      intro w12 hM' hww12;clear hM;have hM := hM';clear hM'
      refine s_move hE rfl rfl ?_;clear hE a;intro a hE
      refine s_fieldAddr hE rfl fo59_2 rfl ?_;clear hE a;intro a hE
      refine s_sliceArr (l := 0) (h := 16) (mx' := 16) hE rfl arr57 rfl rfl rfl (by simp) (by omega) (by omega) (by omega) rfl ?_;clear hE a;intro a hE
      replace hE := hE.cast 65 rfl (show _ = Value.slice (some ⟨b11,2,none⟩) 16 16 from rfl)
      refine s_fieldAddr hE rfl fo59_1 rfl ?_;clear hE a;intro a hE
      refine s_load1 hE rfl (hM.get 0 rfl) rfl one3 (by intro X h;cases h;simp) rfl ?_;clear hE a;intro a hE
      obtain ⟨cq8,hq8⟩ := own_rd (hM.get 2 rfl)
      refine s_call hE rfl Tryd.call31 (pkey_a _ _ (phrZ p) h.s3.2.2.1 _ _ h.s3.2.1 _ (hM.get 4 rfl) hq8 (rd_seg8 (N := 16) (hM.get 0 rfl) rfl hk_h.s3.2.1) (by have := phrZ_len p;omega) (by have hl_q : h.s3.2.2.1.length = 16 := hk_h.s3.2.1;omega)) rfl ?_
      rintro e w13 ⟨v68,rfl,hN⟩
      refine ⟨_,rfl,hN.sta0 _,?_⟩;clear hE a;intro a hE
      replace hM : Mem _ _ w13 [_,_,_,_,_,_,_] := hM.call0 hN ⟨rfl,trivial⟩;clear hN
      replace hM := Mem.ownWB (p := keyZ (phrZ p) h.s3.2.2.1 h.s3.2.1) (q := kK p h.s3.2.2.1 h.s3.2.1) hM (by simp [keyZ,phrZ,kK,hop,hor])
      refine s_move hE rfl rfl ?_;clear hE a;intro a hE
      refine s_extract hE rfl rfl rfl ?_;clear hE a;intro a hE
      refine s_extract hE rfl rfl rfl ?_;clear hE a;intro a hE
      refine s_assign hE rfl rfl ?_;clear hE a;intro a hE
      refine s_assign hE rfl rfl ?_;clear hE a;intro a hE
      refine q_nil ?_
      replace hE : Env a 112 [(1,_),(2,_),(4,_),(5,_),(6,_),(7,_),(8,_),(10,_),(11,_),(12,_),(13,_),(18,_),(28,_),(41,_),(43,_),(61,_)] := hE.sel [1,2,4,5,6,7,8,10,11,12,13,18,28,41,43,61] rfl
      refine hK18 _ _ ?_
      refine wp_seq_k (fun K19 hK19 => ?_)
      refine wp_seq_k (fun K20 hK20 => ?_)
      refine wp_plain [true,true,true,true,true,true,true] rfl rfl ?_
      refine s_move hE rfl rfl ?_;clear hE a;intro a hE
      refine s_bin hE rfl rfl bin_neq rfl ?_;clear hE a;intro a hE
      refine s_move hE rfl rfl ?_;clear hE a;intro a hE
      replace hE := hE.cast 73 rfl (show _ = Value.bool false from (congrArg Value.bool (by rw [roundE_zero.2 hor];rfl)))
      refine g_yes hE rfl rfl ?_
      refine s_move hE rfl rfl ?_;clear hE a;intro a hE
      refine g_yes hE rfl rfl ?_
      refine s_len hE rfl Tryd.underlying42 (ownW_slice (hM.get 0 rfl)) rfl ?_;clear hE a;intro a hE
      replace hE := hE.cast 75 rfl (show _ = Value.int .i64 ((32 : Nat) : Int) from (congrArg (fun n : Nat => Value.int .i64 (n : Int)) (kK_len ..)))
      refine g_yes hE rfl rfl ?_
      refine s_bin hE rfl rfl bin_neq rfl ?_;clear hE a;intro a hE
      replace hE := hE.cast 76 rfl (show _ = Value.bool false from (congrArg Value.bool (by decide)))
      refine s_pickf hE rfl rfl rfl ?_;clear hE a;intro a hE
      refine q_nil ?_
      replace hE : Env a 112 [(1,_),(2,_),(4,_),(5,_),(6,_),(7,_),(8,_),(10,_),(11,_),(12,_),(13,_),(18,_),(28,_),(41,_),(43,_),(61,_),(77,_)] := hE.sel [1,2,4,5,6,7,8,10,11,12,13,18,28,41,43,61,77] rfl
      refine hK20 _ _ ?_
      refine wp_cond_false (hE.eval rfl) ?_
      refine wp_skip ?_
      refine hK19 _ _ ?_
      refine wp_seq_j (fun a w' => ∃ (b14 : Nat),Env a 112 [(1,.string (str p)),(2,.pointer (some ⟨b2,0,none⟩)),(4,.bool false),(5,.pointer (some ⟨b5,0,none⟩)),(6,.int .i64 0),(7,.int .i64 12),(8,v37),(10,.int .i64 3),(11,.pointer (some ⟨b11,0,none⟩)),(12,v68),(13,.int .i64 ((roundE h.s3.2.1 : Nat) : Int)),(14,.pointer (some ⟨b14,0,none⟩)),(15,.int .i64 ((unwE (kK p h.s3.2.2.1 h.s3.2.1) [115,108,111,116] 0 h.s3.2.2.2.1 h.s3.2.2.2.2 : Nat) : Int)),(18,.bool false),(28,.bool false),(41,.bool false),(43,.bool true),(61,.bool false),(77,.bool false)] ∧ Mem w [] w' [blk b14 [bv (unwK (kK p h.s3.2.2.1 h.s3.2.1) [115,108,111,116] 0 h.s3.2.2.2.1 h.s3.2.2.2.2)] [32] 23,ownW v68 1 (kK p h.s3.2.2.1 h.s3.2.1).length (bv (kK p h.s3.2.2.1 h.s3.2.1)),blk b11 [[.bool h.s3.1],[.int .i64 h.s3.2.1],bv h.s3.2.2.1,bv h.s3.2.2.2.1,bv h.s3.2.2.2.2] [1,1,16,32,32] 59,blk b5 [bv (List.replicate 32 0)] [32] 23,own v37 1 (phrZ p).length (bv (phrZ p)),blk b2 [[.int .i64 h.m],[.int .i64 h.r],[.bool h.v0.1],[.int .u64 ((h.v0.2.1 : Nat) : Int)],bv h.v0.2.2.1,bv h.v0.2.2.2,[.bool h.v1.1],[.int .u64 ((h.v1.2.1 : Nat) : Int)],bv h.v1.2.2.1,bv h.v1.2.2.2,[.bool h.s0.1],[.int .i64 h.s0.2.1],bv h.s0.2.2.1,bv h.s0.2.2.2.1,bv h.s0.2.2.2.2,[.bool h.s1.1],[.int .i64 h.s1.2.1],bv h.s1.2.2.1,bv h.s1.2.2.2.1,bv h.s1.2.2.2.2,[.bool h.s2.1],[.int .i64 h.s2.2.1],bv h.s2.2.2.1,bv h.s2.2.2.2.1,bv h.s2.2.2.2.2,[.bool h.s3.1],[.int .i64 h.s3.2.1],bv h.s3.2.2.1,bv h.s3.2.2.2.1,bv h.s3.2.2.2.2] [1,1,1,1,32,32,1,1,32,32,1,1,16,32,32,1,1,16,32,32,1,1,16,32,32,1,1,16,32,32] 62,glb 1,tabP]) ?_ ?_
      ·refine wp_treeM hM (by kernel_rfl) (fun _ => True) (fun _ => True) (.re [(0,true),(1,true),(3,true),(2,true),(4,true),(5,false),(6,true),(7,true),(8,true),(9,false),(10,false),(11,true)] (.fl 3 (.weak (.fl 2 (.or 5 (.re [(6,true),(7,true),(8,true),(9,false),(10,false),(11,true)] (.fl 3 (.fl 0 (.or 9 (.re [(10,false),(11,true)] (.fl 0 (.fl 0 (.or 10 (.cut (.re [(11,true)] (.weak (.leaf 1)))) (.stop))))) (.stop))))) (.or 9 (.cut (.re [(5,false),(6,true),(7,true),(8,true),(10,false),(11,true)] (.fl 0 (.fl 0 (.or 5 (.re [(6,true),(7,true),(8,true),(10,false),(11,true)] (.fl 3 (.fl 0 (.weak (.or 10 (.cut (.re [(11,true)] (.weak (.leaf 1)))) (.stop)))))) (.stop)))))) (.stop))))))) [(0,true),(1,true),(3,true),(2,true),(4,true),(5,false),(6,true),(7,true),(8,true),(9,false),(10,false),(11,true)] [(1,[(2,1),(5,2),(6,5),(7,6),(8,6),(10,1),(11,1)]),(2,[(5,2),(6,5),(7,6),(8,6),(10,2),(11,2)]),(3,[(4,3),(5,4),(6,5),(7,6),(8,6),(10,3),(11,3)]),(4,[(5,4),(6,5),(7,6),(8,6),(10,4),(11,4)]),(5,[(6,5),(7,6),(8,6),(10,5),(11,5)]),(7,[(10,7),(11,7)]),(8,[(11,8)]),(9,[(10,9),(11,9)]),(10,[(11,10)])] (by kernel_rfl) ?_
       intro w14 hM' hww14;clear hM;have hM := hM';clear hM'
       refine o_re ?_
       refine o_fl rfl ?_
       refine s_move hE rfl rfl ?_;clear hE a;intro a hE
       refine s_toArrW hE rfl (hM.get 0 rfl) rfl (kK_len ..) (by decide) Tryd.underlying23 rfl ?_;clear hE a;intro a p80 hE hc80 hv80
       refine s_fieldAddr hE rfl fo59_3 rfl ?_;clear hE a;intro a hE
       refine q_nil (q_nx ?_)
       refine o_weak (fun b => b ≠ b11 ∧ b ∉ valBlocks v68) (fun _ _ => trivial) ?_
       refine o_fl rfl ?_
       refine s_loadAtN hE rfl hc80 (by rw [bv_length,kK_len];exact row23) (by intro X h;cases h;exact fun b hb hx => hx.2 (hv80 b hb)) rfl ?_;clear hE a;intro a hE
       refine s_loadN hE rfl (hM.get 1 rfl) row29 rfl (by intro X h;cases h;simp) rfl ?_;clear hE a;intro a hE
       replace hE := hE.cast 83 rfl (show _ = Value.agg ([bv h.s3.2.2.2.1,bv h.s3.2.2.2.2] : List (List Value)).flatten.toArray from (by first | rfl | simp only [List.flatten_cons,List.flatten_nil,List.append_nil,List.append_assoc]))
       refine q_nil (q_nx ?_)
       refine o_or rfl ?_ ?_
       ·refine s_call hE rfl Tryd.call16 (unwrap_c (kK p h.s3.2.2.1 h.s3.2.1) [115,108,111,116] 0 h.s3.2.2.2.1 h.s3.2.2.2.2 _ (hM.get 5 rfl) (hM.get 6 rfl) (kK_len ..) hk_h.s3.2.2.1 hk_h.s3.2.2.2 (by have hl_0 : (kK p h.s3.2.2.1 h.s3.2.1).length = 32 := (kK_len ..);have hl_1 : [115,108,111,116].length = 4 := (by first | (simp;done) | (simp [*];done) | (simp;omega));have hl_3d : h.s3.2.2.2.1.length = 32 := hk_h.s3.2.2.1;have hl_3t : h.s3.2.2.2.2.length = 32 := hk_h.s3.2.2.2;first | omega | assumption | (simp;done) | (simp;omega) | decide) (by have hl_0 : (kK p h.s3.2.2.1 h.s3.2.1).length = 32 := (kK_len ..);have hl_1 : [115,108,111,116].length = 4 := (by first | (simp;done) | (simp [*];done) | (simp;omega));have hl_3d : h.s3.2.2.2.1.length = 32 := hk_h.s3.2.2.1;have hl_3t : h.s3.2.2.2.2.length = 32 := hk_h.s3.2.2.2;first | omega | assumption | (simp;done) | (simp;omega) | decide)) rfl ?_
        rintro e w15 ⟨rfl,hN⟩
        refine ⟨_,rfl,hN.sta0 _,?_⟩;clear hE a;intro a hE
        replace hM : Mem _ _ w15 [_,_,_,_,_,_,_] := hM.call0 hN trivial;clear hN
        refine q_nil (q_nx ?_)
        refine o_re ?_
        refine o_fl rfl ?_
        refine s_move hE rfl rfl ?_;clear hE a;intro a hE
        refine s_extract hE rfl rfl rfl ?_;clear hE a;intro a hE
        refine s_extract hE rfl rfl rfl ?_;clear hE a;intro a hE
        refine q_nil (q_nx ?_)
        refine o_fl rfl ?_
        refine q_nil (q_nx ?_)
        refine o_or rfl ?_ ?_
        ·refine s_alloc [32] hE hM zero23 rfl rfl ?_;clear hE a;intro a b14 w16 hE hM'
         clear hM;have hM := hM';clear hM'
         refine q_nil (q_nx ?_)
         refine o_re ?_
         refine o_fl rfl ?_
         refine q_nil (q_nx ?_)
         refine o_fl rfl ?_
         refine q_nil (q_nx ?_)
         refine o_or rfl ?_ ?_
         ·refine s_storeSeg 0 hE rfl rfl hM rfl sz23 ((bv_length _).trans (unwK_len (k := (kK p h.s3.2.2.1 h.s3.2.1)) (l := [115,108,111,116]) (n := 0) (d := h.s3.2.2.2.1) (t := h.s3.2.2.2.2) (by have hl_std : h.s3.2.2.2.1.length = 32 := hk_h.s3.2.2.1;first | assumption | (simp;done)))) (bv_one _) rfl ((bv_length _).trans (by first | (simp;done) | (simp [*];done) | (simp;omega))) rfl (by intro X h;cases h;exact ⟨fun e => ((apart_of_get hM.apart (i := 0) (j := 2) rfl rfl (by decide)).1 _ (.head _)).1 (by rw [e];exact .head _),fun hv => ((apart_of_get hM.apart (i := 0) (j := 1) rfl rfl (by decide)).1 _ (.head _)).1 hv⟩) ?_;intro w17 hM';clear hM;have hM := hM';clear hM'
          simp only [List.set_cons_zero,List.set_cons_succ] at hM
          refine q_nil (q_nx ?_)
          refine o_cut (fun _ => True) ?_
          refine o_re ?_
          refine o_weak (fun _ => False) (fun _ _ => trivial) ?_
          refine o_leaf rfl rfl ?_
          refine s_assign hE rfl rfl ?_;clear hE a;intro a hE
          refine q_nil (q_ph (q_nil ?_))
          replace hE : Env a 112 [(1,_),(2,_),(4,_),(5,_),(6,_),(7,_),(8,_),(10,_),(11,_),(12,_),(13,_),(14,_),(15,_),(18,_),(28,_),(41,_),(43,_),(61,_),(77,_)] := hE.sel [1,2,4,5,6,7,8,10,11,12,13,14,15,18,28,41,43,61,77] rfl
          replace hM : Mem _ _ w17 [_,_,_,_,_,_,_,_] := hM.pick [0,1,2,3,4,5,6,7] rfl
          refine q_then_n ⟨_,hE.sel [1,2,4,5,6,7,8,10,11,12,13,14,15,18,28,41,43,61,77] rfl,hM⟩
         trivial
        trivial
       refine o_or rfl ?_ ?_
       ·refine s_alloc [32] hE hM zero23 rfl rfl ?_;clear hE a;intro a b14 w15 hE hM'
        clear hM;have hM := hM';clear hM'
        refine q_nil (q_nx ?_)
        refine o_cut (fun _ => True) ?_
        refine o_re ?_
        refine o_fl rfl ?_
        refine q_nil (q_nx ?_)
        refine o_fl rfl ?_
        refine q_nil (q_nx ?_)
        refine o_or rfl ?_ ?_
        ·refine s_call hE rfl Tryd.call16 (unwrap_c (kK p h.s3.2.2.1 h.s3.2.1) [115,108,111,116] 0 h.s3.2.2.2.1 h.s3.2.2.2.2 _ (hM.get 6 rfl) (hM.get 7 rfl) (kK_len ..) hk_h.s3.2.2.1 hk_h.s3.2.2.2 (by have hl_0 : (kK p h.s3.2.2.1 h.s3.2.1).length = 32 := (kK_len ..);have hl_1 : [115,108,111,116].length = 4 := (by first | (simp;done) | (simp [*];done) | (simp;omega));have hl_3d : h.s3.2.2.2.1.length = 32 := hk_h.s3.2.2.1;have hl_3t : h.s3.2.2.2.2.length = 32 := hk_h.s3.2.2.2;first | omega | assumption | (simp;done) | (simp;omega) | decide) (by have hl_0 : (kK p h.s3.2.2.1 h.s3.2.1).length = 32 := (kK_len ..);have hl_1 : [115,108,111,116].length = 4 := (by first | (simp;done) | (simp [*];done) | (simp;omega));have hl_3d : h.s3.2.2.2.1.length = 32 := hk_h.s3.2.2.1;have hl_3t : h.s3.2.2.2.2.length = 32 := hk_h.s3.2.2.2;first | omega | assumption | (simp;done) | (simp;omega) | decide)) rfl ?_
         rintro e w16 ⟨rfl,hN⟩
         refine ⟨_,rfl,hN.sta0 _,?_⟩;clear hE a;intro a hE
         replace hM : Mem _ _ w16 [_,_,_,_,_,_,_,_] := hM.call0 hN trivial;clear hN
         refine q_nil (q_nx ?_)
         refine o_re ?_
         refine o_fl rfl ?_
         refine s_move hE rfl rfl ?_;clear hE a;intro a hE
         refine s_extract hE rfl rfl rfl ?_;clear hE a;intro a hE
         refine s_extract hE rfl rfl rfl ?_;clear hE a;intro a hE
         refine q_nil (q_nx ?_)
         refine o_fl rfl ?_
         refine q_nil (q_nx ?_)
         refine o_weak (fun b => b = b14) (fun _ _ => trivial) ?_
         refine o_or rfl ?_ ?_
         ·refine s_storeSeg 0 hE rfl rfl hM rfl sz23 ((bv_length _).trans (unwK_len (k := (kK p h.s3.2.2.1 h.s3.2.1)) (l := [115,108,111,116]) (n := 0) (d := h.s3.2.2.2.1) (t := h.s3.2.2.2.2) (by have hl_std : h.s3.2.2.2.1.length = 32 := hk_h.s3.2.2.1;first | assumption | (simp;done)))) (bv_one _) rfl ((bv_length _).trans (by first | (simp;done) | (simp [*];done) | (simp;omega))) rfl (by intro X h;cases h;rfl) ?_;intro w17 hM';clear hM;have hM := hM';clear hM'
          simp only [List.set_cons_zero,List.set_cons_succ] at hM
          refine q_nil (q_nx ?_)
          refine o_cut (fun _ => True) ?_
          refine o_re ?_
          refine o_weak (fun _ => False) (fun _ _ => trivial) ?_
          refine o_leaf rfl rfl ?_
          refine s_assign hE rfl rfl ?_;clear hE a;intro a hE
          refine q_nil (q_ph (q_nil ?_))
          replace hE : Env a 112 [(1,_),(2,_),(4,_),(5,_),(6,_),(7,_),(8,_),(10,_),(11,_),(12,_),(13,_),(14,_),(15,_),(18,_),(28,_),(41,_),(43,_),(61,_),(77,_)] := hE.sel [1,2,4,5,6,7,8,10,11,12,13,14,15,18,28,41,43,61,77] rfl
          replace hM : Mem _ _ w17 [_,_,_,_,_,_,_,_] := hM.pick [0,1,2,3,4,5,6,7] rfl
          refine q_then_n ⟨_,hE.sel [1,2,4,5,6,7,8,10,11,12,13,14,15,18,28,41,43,61,77] rfl,hM⟩
         trivial
        trivial
       trivial
      clear hE hM a;rintro a w18 ⟨b14,hE,hM⟩
      refine wp_seq_k (fun K21 hK21 => ?_)
      refine wp_plain [true,true,true,true,true,true,true] rfl rfl ?_
      refine s_move hE rfl rfl ?_;clear hE a;intro a hE
      refine s_bin hE rfl rfl bin_eql rfl ?_;clear hE a;intro a hE
      replace hE := hE.cast 88 rfl (show _ = Value.bool false from (congrArg Value.bool (by decide)))
      refine s_move hE rfl rfl ?_;clear hE a;intro a hE
      refine g_no (b := false) hE rfl rfl rfl ?_;clear hE a;intro a hE
      refine g_no (b := false) hE rfl rfl rfl ?_;clear hE a;intro a hE
      refine g_no (b := false) hE rfl rfl rfl ?_;clear hE a;intro a hE
      refine s_pickf hE rfl rfl rfl ?_;clear hE a;intro a hE
      refine q_nil ?_
      replace hE : Env a 112 [(1,_),(2,_),(4,_),(5,_),(6,_),(7,_),(8,_),(10,_),(11,_),(12,_),(13,_),(14,_),(15,_),(18,_),(28,_),(41,_),(43,_),(61,_),(77,_),(93,_)] := hE.sel [1,2,4,5,6,7,8,10,11,12,13,14,15,18,28,41,43,61,77,93] rfl
      refine hK21 _ _ ?_
      refine wp_cond_false (hE.eval rfl) ?_
      refine wp_seq_k (fun K22 hK22 => ?_)
      refine wp_plain [true,true] rfl rfl ?_
      refine s_move hE rfl rfl ?_;clear hE a;intro a hE
      refine s_bin hE rfl rfl bin_eql rfl ?_;clear hE a;intro a hE
      refine q_nil ?_
      replace hE : Env a 112 [(1,_),(2,_),(4,_),(5,_),(6,_),(7,_),(8,_),(10,_),(11,_),(12,_),(13,_),(14,_),(15,_),(18,_),(28,_),(41,_),(43,_),(61,_),(77,_),(93,_),(102,_)] := hE.sel [1,2,4,5,6,7,8,10,11,12,13,14,15,18,28,41,43,61,77,93,102] rfl
      refine hK22 _ _ ?_
      replace hE := hE.cast 102 rfl (show _ = Value.bool false from (congrArg Value.bool (decide_eq_false (by have hw1 := op_ne hu1 (show opS p h.s3 = false from hqn 3 (by decide));simp only [slotT] at hw1;omega))))
      refine wp_cond_false (hE.eval rfl) ?_
      refine wp_skip ?_
      refine q_block_n ?_
      refine hK14 _ _ ?_
      refine wp_plain [true,true,true] rfl rfl ?_
      refine s_move hE rfl rfl ?_;clear hE a;intro a hE
      refine s_bin hE rfl rfl (show Bin _ _ _ _ _ (.int .i64 4) from bin_add (by rw [wrap_i64 (by omega) (by omega)];omega)) rfl ?_;clear hE a;intro a hE
      refine s_assign hE rfl rfl ?_;clear hE a;intro a hE
      refine q_nil ?_
      replace hE : Env a 112 [(1,_),(2,_),(4,_),(5,_),(6,_),(7,_),(8,_),(10,_),(11,_),(12,_),(13,_),(14,_),(15,_),(18,_),(28,_),(41,_),(43,_),(61,_),(77,_),(93,_),(102,_)] := hE.sel [1,2,4,5,6,7,8,10,11,12,13,14,15,18,28,41,43,61,77,93,102] rfl
      replace hM : Mem _ _ w18 [_,_,_,_,_] := hM.pick [3,4,5,6,7] rfl
      refine q_then_n ⟨trivial,hE.sel [1,2,4,5,6,7,8,10,18,28,41] rfl,hM⟩
    clear hE hM a;rintro a w10 ⟨hJ10_3,hE,hM⟩
    refine c_rounds ?_
    refine wp_seq_k (fun K12 hK12 => ?_)
    refine wp_seq_k (fun K13 hK13 => ?_)
    refine wp_plain [true,true] rfl rfl ?_
    refine s_move hE rfl rfl ?_;clear hE a;intro a hE
    refine s_bin hE rfl rfl bin_lss rfl ?_;clear hE a;intro a hE
    replace hE := hE.cast 43 rfl (show _ = Value.bool false from (congrArg Value.bool (by decide)))
    refine q_nil ?_
    replace hE : Env a 112 [(1,_),(2,_),(4,_),(5,_),(6,_),(7,_),(8,_),(10,_),(18,_),(28,_),(41,_),(43,_)] := hE.sel [1,2,4,5,6,7,8,10,18,28,41,43] rfl
    refine hK13 _ _ ?_
    refine wp_cond_false (hE.eval rfl) ?_
    refine wp_exit ?_
    refine q_then_e ?_
    refine q_then_e ?_
    refine q_block_x ?_
    refine hK10 _ _ ?_
    refine wp_seq_k (fun K14 hK14 => ?_)
    refine wp_plain [true,true,true,true,true,true,true,false,true,true] rfl rfl ?_
    refine s_move hE rfl rfl ?_;clear hE a;intro a hE
    refine s_bin hE rfl rfl bin_eql rfl ?_;clear hE a;intro a hE
    replace hE := hE.cast 104 rfl (show _ = Value.bool false from (congrArg Value.bool (by decide)))
    refine s_move hE rfl rfl ?_;clear hE a;intro a hE
    refine g_yes hE rfl rfl ?_
    refine s_move hE rfl rfl ?_;clear hE a;intro a hE
    refine g_yes hE rfl rfl ?_
    refine s_bin hE rfl rfl bin_eql rfl ?_;clear hE a;intro a hE
    replace hE := hE.cast 107 rfl (show _ = Value.bool true from (congrArg Value.bool (by decide)))
    refine s_pickf hE rfl rfl rfl ?_;clear hE a;intro a hE
    refine s_move hE rfl rfl ?_;clear hE a;intro a hE
    refine g_yes hE rfl rfl ?_
    refine s_call hE rfl Tryd.call28 (awake25_c  _ (hM.get 3 rfl) (hM.get 4 rfl)) rfl ?_
    rintro e w11 ⟨rfl,hN⟩
    refine ⟨_,rfl,trivial,?_⟩;clear hE a;intro a hE
    replace hM : Mem _ _ w11 [_,_,_,_,_] := hM.call0 hN trivial;clear hN
    refine s_pickt hE rfl rfl rfl ?_;clear hE a;intro a hE
    refine s_assign hE rfl rfl ?_;clear hE a;intro a hE
    refine q_nil ?_
    replace hE : Env a 112 [(1,_),(2,_),(4,_),(5,_),(6,_),(7,_),(8,_),(10,_),(18,_),(28,_),(41,_),(43,_)] := hE.sel [1,2,4,5,6,7,8,10,18,28,41,43] rfl
    refine hK14 _ _ ?_
    refine wp_ret ?_
    refine f_ret1 hE rfl rfl ?_
    exact ⟨(by first | rfl | (simp;done)),hM.pick [] rfl⟩
set_option maxRecDepth 100000 in
theorem slotsBoxes_lifted (os : Os) (started : os.Started) (H : Type) (enc : TypeId × Value → H) :
  ReturnsInHanded {} Tryd.checked os 8 .any (fun w args => (Rows.slotsBoxesSpec.pre enc Tryd.prog Tryd.f8 [] false w args ∧ laidMetH Tryd.prog Rows.slotsBoxesRow.laid w) ∧ sizedMet enc Tryd.prog Tryd.f8 (OpenSpec.ofChange Rows.slotsBoxesSpec) false w args) (Rows.slotsBoxesSpec.post enc Tryd.prog Tryd.f8 false true false false) := by
 refine law_liftedL (C := Tryd.checked) (fn := Tryd.f8) (l := Rows.slotsBoxesRow.laid) (by kernel_rfl) started (by kernel_rfl) Tryd.func8 rfl (fun ds hl => ?_) rfl Tryd.underlying4 (by kernel_rfl) (of_decide_eq_true (by kernel_rfl)) (by kernel_rfl)
  (ChangeSpec.witness_shaped (enc := enc) (C := Tryd.checked) (os := os) (X := fun w _ => laidMetH Tryd.prog Rows.slotsBoxesRow.laid w) false (World.laidAll Tryd.prog os Rows.slotsBoxesRow.laid) #[.agg ([[.int .i64 0],[.int .i64 0]] ++ [[.bool false],[.int .u64 0],bv (List.replicate 64 0)] ++ [[.bool false],[.int .u64 0],bv (List.replicate 64 0)] ++ (List.replicate 4 [[.bool false],[.int .i64 0],bv (List.replicate 80 0)]).flatten : List (List Value)).flatten.toArray,Value.string .empty] 8 (World.laidAll_os _ _ _) (World.shaped_of_ZipB (by kernel_rfl) (by kernel_rfl)) (by kernel_rfl) (by kernel_rfl) (by kernel_rfl) (by rw [MakeChecks.laidMetH_plain _ _ _ (by kernel_rfl)];exact laidMet_laidAll _ (by kernel_rfl) (by kernel_rfl))) ?_
 ·rw [Tryd.params8] at hl
  match ds,hl with
  | [_,_],_ => rfl
 ·intro W base args ds ps hval hA hw hL
  have hG := glb_of_laid (P := Tryd.prog) (g := 1) (t := 170) (e := 129) (by kernel_rfl) (by kernel_rfl) Tryd.underlying170 Tryd.underlying129 (by kernel_rfl) (by kernel_rfl) (by kernel_rfl) (show laidMet Tryd.prog (_ :: _) W from (laidMet_tail (laidMet_tail (laidMet_tail hL))))
  have hT : tabP.holds W := tabE_of_laid (P := Tryd.prog) (g := 0) (t := 163) (e := 24) (n := 20) (by kernel_rfl) (by kernel_rfl) Tryd.underlying163 Tryd.underlying24 (by kernel_rfl) (by kernel_rfl) (by kernel_rfl) (show laidMet Tryd.prog (_ :: _) W from (laidMet_tail (laidMet_tail hL)))
  rw [Tryd.params8] at hA hval hw
  obtain ⟨v0,vs0,d0,ds0,p0,q0,hargs,rfl,rfl,h0,r0⟩ := trodAll_cons hA
  obtain ⟨v1,vs1,d1,ds1,p1,q1,rfl,rfl,rfl,h1,r1⟩ := trodAll_cons r0
  obtain ⟨rfl,rfl,rfl⟩ := trodAll_nil r1
  obtain rfl : args = #[v0,v1] := by cases args;simp_all
  obtain ⟨hd0,rfl,hk0⟩ := arg_hd (⟨62,52,55,54,60,59,29,23,27,57,3,4,24,5,_,_,_,_,_,Tryd.underlying62,Tryd.underlying52,Tryd.underlying55,Tryd.underlying54,Tryd.underlying60,Tryd.underlying59,Tryd.underlying29,Tryd.underlying23,Tryd.underlying27,Tryd.underlying57,Tryd.underlying3,Tryd.underlying4,Tryd.underlying24,Tryd.underlying5,by kernel_rfl,by kernel_rfl,by kernel_rfl,by kernel_rfl,by kernel_rfl,by kernel_rfl,by kernel_rfl,by kernel_rfl,by kernel_rfl,by kernel_rfl,by kernel_rfl,by kernel_rfl,by kernel_rfl,by kernel_rfl,by kernel_rfl,by kernel_rfl⟩ : HdT Tryd.prog) (hval 0 62 v0 rfl rfl) h0 (fun m hm => hw m (by simp only [DataW.weightsEach,List.mem_append];exact .inl hm))
  rw [hd_cells hd0]
  obtain ⟨s1,rfl,hs1⟩ := arg_string Tryd.underlying9 (hval 1 9 v1 rfl rfl) h1 (fun m hm => hw m (by simp only [DataW.weightsEach,List.mem_append];exact .inr (.inl hm)))
  obtain ⟨p,rfl⟩ := str_of s1
  exact slotsBoxes_c hd0 p W hG hT hk0

/-- The row's statement. -/
theorem slotsBoxes_row : Rows.SlotsBoxesSaid :=
 OpenClaim.holds_of_wide 8 Tryd.f8 rfl rfl rfl rfl rfl rfl rfl ⟨rfl,rfl,rfl,rfl,rfl⟩ rfl rfl rfl rfl rfl (by kernel_rfl) Tryd.func8 (by kernel_rfl)
  (of_decide_eq_true (by kernel_rfl)) (by unfold Func.isWrapper;first | (rw [if_pos (by decide +kernel)];kernel_rfl) | (rw [if_neg (by decide +kernel)];exact ⟨rfl,rfl⟩))
  (fun os started H enc _ => slotsBoxes_lifted os started H enc)

/-- The statement: the row, its listed variable tied to the program's text. -/
theorem slotsBoxes_holds : Rows.SlotsBoxesCardSaid :=
 Claim7.holds_tied_plain_at .later [] [.data, .data, .data, .data] true (true, "260fdf816069b3bf8e1fff31512b0488977d0f5c26e19155cc996da54a266071") false
  slotsBoxes_row (fun _ h => by cases h) (by kernel_rfl) (fun _ h => by cases h) slotsBoxes_row_tie rfl ⟨rfl,rfl⟩ (by kernel_rfl) rfl
  (fun f fn hf hfn => by
   obtain rfl : f = 8 := Option.some.inj ((show Tryd.prog.funcNamed "casemate/casematelaw25.SlotsBoxes" = some 8 by kernel_rfl).symm.trans hf) |>.symm
   obtain rfl : fn = Tryd.f8 := (Option.some.inj (Tryd.func8.symm.trans hfn)).symm
   exact ⟨by kernel_rfl,fun j t ht => by
    rw [Tryd.params8] at ht
    have h : t ∈ [62,9] := by
     rcases j with _ | _ | j
     ·simp at ht;simp [ht]
     ·simp at ht;simp [ht]
     ·simp at ht
    simp only [List.mem_cons,List.not_mem_nil,or_false] at h
    rcases h with rfl | rfl
    ·exact (show Tryd.prog.wantsStandIn 62 = false by kernel_rfl)
    ·exact (show Tryd.prog.wantsStandIn 9 = false by kernel_rfl)⟩)
  (by kernel_rfl)
#print axioms slotsBoxes_holds
end Go.Proofs.YtniekapfoaiieaaDoor
